/- One of the texts that this claim stands on. -/
import Derived.Test.YtfiglmdmnfdldaaGreatEv38
set_option linter.unusedVariables false
set_option linter.unusedSimpArgs false
set_option linter.unusedSimpArgs false
set_option linter.unusedVariables false
namespace Go.Ab.Pd
open Go.Proofs
theorem ok17 : codeOk 17 (Tryz.f17.body.getD .skip) = true := by kernel_rfl
theorem ro17 : resOk 17 Tryz.f17.results = true := by kernel_rfl
theorem dr17 : todoDr [] [.code (Tryz.f17.body.getD .skip)] = true := by kernel_rfl
set_option maxHeartbeats 8000000 in
set_option maxRecDepth 400000 in
theorem spotsMany_pur (a b c : Int) (w : Wnt) : Pur Tryz.prog GG 17 [.agg [I a, I b, I c], w.av] (.tup [I (if dwchk a b c w.p w.q w.r = 0 then ((wholeL a b c w).length : Int) else 0), I (dwchk a b c w.p w.q w.r)]) := by
  show Pur Tryz.prog GG 17 [.agg [I a, I b, I c], WT w.p w.q w.r w.s w.t w.u w.v] _
  by_cases h : dwchk a b c w.p w.q w.r = 0
  · rw [if_pos h]
    obtain ⟨hd, hw⟩ := dwchk_ok.1 h
    refine Pur.of_alone ggp (by simp [AV.purL, AV.pur]) (AC.of_body (c := (Tryz.f17.body.getD .skip)) Tryz.func17 rfl (by decide) ok17 ro17 (by exact (by decide : 2 ≤ 17)) ?_)
    refine walk hmix S4_ok [] 3000 0 dr17 ?_
    delta Tryz.f17
    simp only [Option.getD_some]
    simp (maxSteps := 2000000) only [sy_nil, symR_nil, wrapL, natc0, natc1, beq_self_eq_true, Nat.reduceBEq, Int.cast_ofNat_Int, Int.reducePow, false_or, true_or, or_true, or_false, tcall, roOf, ↓roK_ok, ↓roK_call, ↓roK_bad, ↓opK_some, ↓guK_some, ↓guK_none, ↓exK_some, ↓exK_none, ↓tmK_some, ↓gdK_true, ↓gdK_false, ↓gdK_dec, ↓gdK_not, ↓gsK_true, ↓gsK_false, ↓gsK_un, ↓gsK_dec, ↓gsK_not, decide_not, beq_eq_decide', bne_eq_decide', List.range_succ, List.range_zero, List.nil_append, List.cons_append, List.append_nil, List.size_toArray, List.length_cons, List.length_nil, List.length_append, Nat.zero_add, Nat.reduceAdd, Nat.reduceMul, Nat.reduceSub, List.getElem?_toArray, List.getElem?_cons_zero, List.getElem?_cons_succ, List.getElem?_nil, aop, ev, upd, Go.Ab.put, aload, astore, rdCells, wrCells, splice, argTs, List.getD_cons_zero, List.getD_cons_succ, List.getD_nil, AV.isEl.eq_1, AV.isEl.eq_2, AV.cells.eq_1, AV.cells.eq_2, AV.isCell.eq_1, AV.isCell.eq_2, AV.isCell.eq_3, if_true, if_false, ↓reduceIte, Option.bind_some, Option.map_some, Option.some.injEq, true_and, and_true, ofV, Nat.reduceEqDiff, List.append_assoc, List.drop_zero, List.drop_succ_cons, List.drop_nil, List.take_succ_cons, List.take_zero, List.take_nil, List.set_cons_zero, List.set_cons_succ, aBin, aBinI, aInt, aIdx, aPart, aField, ptrAdd, reEl, pickA, aBuild, aFill, slv, Nat.reduceLeDiff, Nat.le_refl, Int.reduceLT, Int.reduceEq, Int.reduceNe, ne_eq, not_true_eq_false, not_false_eq_true, Int.reduceLE, Int.reduceAdd, Int.reduceSub, Int.reduceMul, Int.reduceToNat, Int.toNat_zero, Int.toNat_one, Int.zero_add, decide_true, decide_false, Bool.not_true, Bool.not_false, cond_true, cond_false, forall_const, true_implies, reduceCtorEq, false_implies, implies_true, exitTo, List.map_cons, List.map_nil, Option.map_none, Option.toList_some, Option.toList_none, eq_self, Bool.true_eq_false, Bool.false_eq_true, Int.reduceNeg, List.contains_nil, Nat.add_zero, Nat.reduceLT, and_self, Tab.ext, Tab.nil, resA, resL, resVar, bool_or_same, reduceIte, aop2, aFillEs, List.reduceReplicate, Nat.reducePow, kw0, kw1, h, S4, g63, S3, g43, S2, g53, S1, g49, T23, g135, T22, g69, T21, g132, T20, g61, T19, g188, T18, g242, T17, g186, T16, glink, T13, g240, T12, g120, T11, g181, T10, g177, T9, g121, T8, g110, T7, gstep, T6, g104, T5, g162, T4, g176, T3, g172, T2, g215, T1, g44, T0, g54, ty0, ty1, ty2, ty3, ty4, ty5, ty6, ty7, ty8, ty9]
    refine whole_ac hd w hw ?_
    intro H1 s hseg _ _ _
    have hlen : aLen Tryz.prog 31 s = some ((wholeL a b c w).length : Int) := by
      generalize wholeL a b c w = L at hseg
      cases hseg with
      | nil => exact ln31
      | row h hn => rw [← hn]; exact ls31 _ _ _ _
    refine walk hmix S4_ok [] 3000 0 (by kernel_rfl) ?_
    simp (maxSteps := 2000000) only [sy_nil, symR_nil, wrapL, natc0, natc1, beq_self_eq_true, Nat.reduceBEq, Int.cast_ofNat_Int, Int.reducePow, false_or, true_or, or_true, or_false, tcall, roOf, ↓roK_ok, ↓roK_call, ↓roK_bad, ↓opK_some, ↓guK_some, ↓guK_none, ↓exK_some, ↓exK_none, ↓tmK_some, ↓gdK_true, ↓gdK_false, ↓gdK_dec, ↓gdK_not, ↓gsK_true, ↓gsK_false, ↓gsK_un, ↓gsK_dec, ↓gsK_not, decide_not, beq_eq_decide', bne_eq_decide', List.range_succ, List.range_zero, List.nil_append, List.cons_append, List.append_nil, List.size_toArray, List.length_cons, List.length_nil, List.length_append, Nat.zero_add, Nat.reduceAdd, Nat.reduceMul, Nat.reduceSub, List.getElem?_toArray, List.getElem?_cons_zero, List.getElem?_cons_succ, List.getElem?_nil, aop, ev, upd, Go.Ab.put, aload, astore, rdCells, wrCells, splice, argTs, List.getD_cons_zero, List.getD_cons_succ, List.getD_nil, AV.isEl.eq_1, AV.isEl.eq_2, AV.cells.eq_1, AV.cells.eq_2, AV.isCell.eq_1, AV.isCell.eq_2, AV.isCell.eq_3, if_true, if_false, ↓reduceIte, Option.bind_some, Option.map_some, Option.some.injEq, true_and, and_true, ofV, Nat.reduceEqDiff, List.append_assoc, List.drop_zero, List.drop_succ_cons, List.drop_nil, List.take_succ_cons, List.take_zero, List.take_nil, List.set_cons_zero, List.set_cons_succ, aBin, aBinI, aInt, aIdx, aPart, aField, ptrAdd, reEl, pickA, aBuild, aFill, slv, Nat.reduceLeDiff, Nat.le_refl, Int.reduceLT, Int.reduceEq, Int.reduceNe, ne_eq, not_true_eq_false, not_false_eq_true, Int.reduceLE, Int.reduceAdd, Int.reduceSub, Int.reduceMul, Int.reduceToNat, Int.toNat_zero, Int.toNat_one, Int.zero_add, decide_true, decide_false, Bool.not_true, Bool.not_false, cond_true, cond_false, forall_const, true_implies, reduceCtorEq, false_implies, implies_true, exitTo, List.map_cons, List.map_nil, Option.map_none, Option.toList_some, Option.toList_none, eq_self, Bool.true_eq_false, Bool.false_eq_true, Int.reduceNeg, List.contains_nil, Nat.add_zero, Nat.reduceLT, and_self, Tab.ext, Tab.nil, resA, resL, resVar, bool_or_same, reduceIte, aop2, aFillEs, List.reduceReplicate, Nat.reducePow, kw0, kw1, hlen, S4, g63, S3, g43, S2, g53, S1, g49, T23, g135, T22, g69, T21, g132, T20, g61, T19, g188, T18, g242, T17, g186, T16, glink, T13, g240, T12, g120, T11, g181, T10, g177, T9, g121, T8, g110, T7, gstep, T6, g104, T5, g162, T4, g176, T3, g172, T2, g215, T1, g44, T0, g54, ty0, ty1, ty2, ty3, ty4, ty5, ty6, ty7, ty8, ty9]
    exact ⟨_, rfl, done_pur rfl rfl⟩
  · rw [if_neg h]
    refine Pur.of_alone ggp (by simp [AV.purL, AV.pur]) (AC.of_body (c := (Tryz.f17.body.getD .skip)) Tryz.func17 rfl (by decide) ok17 ro17 (by exact (by decide : 2 ≤ 17)) ?_)
    refine walk hmix S4_ok [] 3000 0 dr17 ?_
    delta Tryz.f17
    simp only [Option.getD_some]
    simp (maxSteps := 2000000) only [sy_nil, symR_nil, wrapL, natc0, natc1, beq_self_eq_true, Nat.reduceBEq, Int.cast_ofNat_Int, Int.reducePow, false_or, true_or, or_true, or_false, tcall, roOf, ↓roK_ok, ↓roK_call, ↓roK_bad, ↓opK_some, ↓guK_some, ↓guK_none, ↓exK_some, ↓exK_none, ↓tmK_some, ↓gdK_true, ↓gdK_false, ↓gdK_dec, ↓gdK_not, ↓gsK_true, ↓gsK_false, ↓gsK_un, ↓gsK_dec, ↓gsK_not, decide_not, beq_eq_decide', bne_eq_decide', List.range_succ, List.range_zero, List.nil_append, List.cons_append, List.append_nil, List.size_toArray, List.length_cons, List.length_nil, List.length_append, Nat.zero_add, Nat.reduceAdd, Nat.reduceMul, Nat.reduceSub, List.getElem?_toArray, List.getElem?_cons_zero, List.getElem?_cons_succ, List.getElem?_nil, aop, ev, upd, Go.Ab.put, aload, astore, rdCells, wrCells, splice, argTs, List.getD_cons_zero, List.getD_cons_succ, List.getD_nil, AV.isEl.eq_1, AV.isEl.eq_2, AV.cells.eq_1, AV.cells.eq_2, AV.isCell.eq_1, AV.isCell.eq_2, AV.isCell.eq_3, if_true, if_false, ↓reduceIte, Option.bind_some, Option.map_some, Option.some.injEq, true_and, and_true, ofV, Nat.reduceEqDiff, List.append_assoc, List.drop_zero, List.drop_succ_cons, List.drop_nil, List.take_succ_cons, List.take_zero, List.take_nil, List.set_cons_zero, List.set_cons_succ, aBin, aBinI, aInt, aIdx, aPart, aField, ptrAdd, reEl, pickA, aBuild, aFill, slv, Nat.reduceLeDiff, Nat.le_refl, Int.reduceLT, Int.reduceEq, Int.reduceNe, ne_eq, not_true_eq_false, not_false_eq_true, Int.reduceLE, Int.reduceAdd, Int.reduceSub, Int.reduceMul, Int.reduceToNat, Int.toNat_zero, Int.toNat_one, Int.zero_add, decide_true, decide_false, Bool.not_true, Bool.not_false, cond_true, cond_false, forall_const, true_implies, reduceCtorEq, false_implies, implies_true, exitTo, List.map_cons, List.map_nil, Option.map_none, Option.toList_some, Option.toList_none, eq_self, Bool.true_eq_false, Bool.false_eq_true, Int.reduceNeg, List.contains_nil, Nat.add_zero, Nat.reduceLT, and_self, Tab.ext, Tab.nil, resA, resL, resVar, bool_or_same, reduceIte, aop2, aFillEs, List.reduceReplicate, Nat.reducePow, kw0, kw1, h, S4, g63, S3, g43, S2, g53, S1, g49, T23, g135, T22, g69, T21, g132, T20, g61, T19, g188, T18, g242, T17, g186, T16, glink, T13, g240, T12, g120, T11, g181, T10, g177, T9, g121, T8, g110, T7, gstep, T6, g104, T5, g162, T4, g176, T3, g172, T2, g215, T1, g44, T0, g54, ty0, ty1, ty2, ty3, ty4, ty5, ty6, ty7, ty8, ty9]
    exact ⟨_, rfl, done_pur rfl rfl⟩
end Go.Ab.Pd

set_option linter.unusedSimpArgs false
set_option linter.unusedVariables false
namespace Go.Ab.Pd
open Go.Proofs
def dd {α : Type} [DecidableEq α] : List α → List α
  | [] => []
  | x :: l => if x ∈ dd l then dd l else x :: dd l
theorem dd_mem {α : Type} [DecidableEq α] {x : α} : ∀ {l : List α}, x ∈ dd l ↔ x ∈ l
  | [] => Iff.rfl
  | y :: l => by
    unfold dd
    split
    · rename_i h
      rw [dd_mem, List.mem_cons]
      exact ⟨.inr, fun h' => h'.elim (fun e => e ▸ dd_mem.1 h) id⟩
    · rw [List.mem_cons, List.mem_cons, dd_mem]
theorem dd_nodup {α : Type} [DecidableEq α] : ∀ l : List α, (dd l).Nodup
  | [] => List.nodup_nil
  | y :: l => by
    unfold dd
    split
    · exact dd_nodup l
    · rename_i h
      exact List.nodup_cons.2 ⟨h, dd_nodup l⟩
def Wnt.rots (w : Wnt) : List Wnt := match w.v with
  | true => [w.rot 0, w.rot 1, w.rot 2, w.rot 3, w.rot 4, w.rot 5]
  | false => [w]
theorem Wnt.rots_mem {w t : Wnt} : t ∈ w.turns ↔ t ∈ w.rots := by
  unfold Wnt.turns Wnt.rots
  cases w.v
  · rw [if_neg (by decide)]
  · rw [if_pos rfl, Wnt.all_mem]
    simp only [List.mem_cons, List.not_mem_nil, or_false]
    constructor
    · rintro ⟨i, hi, rfl⟩
      have : i = 0 ∨ i = 1 ∨ i = 2 ∨ i = 3 ∨ i = 4 ∨ i = 5 := by omega
      rcases this with rfl | rfl | rfl | rfl | rfl | rfl <;> simp
    · rintro (rfl | rfl | rfl | rfl | rfl | rfl)
      · exact ⟨0, by decide, rfl⟩
      · exact ⟨1, by decide, rfl⟩
      · exact ⟨2, by decide, rfl⟩
      · exact ⟨3, by decide, rfl⟩
      · exact ⟨4, by decide, rfl⟩
      · exact ⟨5, by decide, rfl⟩
theorem whole_len (a b c : Int) (w : Wnt) : (wholeL a b c w).length = (dd (w.rots.flatMap (plL a b c))).length := by
  refine List.Perm.length_eq (List.perm_iff_count.2 fun x => ?_)
  rw [(whole_rises a b c w).nodup.count, (dd_nodup _).count]
  have h : x ∈ wholeL a b c w ↔ x ∈ dd (w.rots.flatMap (plL a b c)) := by
    rw [whole_mem, dd_mem, rawL, List.mem_flatMap, List.mem_flatMap]
    exact ⟨fun ⟨t, h1, h2⟩ => ⟨t, Wnt.rots_mem.1 h1, h2⟩, fun ⟨t, h1, h2⟩ => ⟨t, Wnt.rots_mem.2 h1, h2⟩⟩
  by_cases h1 : x ∈ wholeL a b c w
  · rw [if_pos h1, if_pos (h.1 h1)]
  · rw [if_neg h1, if_neg fun h2 => h1 (h.2 h2)]
theorem ok109 : codeOk 2 (Tryz.f109.body.getD .skip) = true := by kernel_rfl
theorem ro109 : resOk 2 Tryz.f109.results = true := by kernel_rfl
theorem dr109 : todoDr [] [.code (Tryz.f109.body.getD .skip)] = true := by kernel_rfl
set_option maxHeartbeats 4000000 in
set_option maxRecDepth 400000 in
theorem some_pur : Pur Tryz.prog GG 109 [] (.agg [I 3, I 2, I 1]) := by
  refine Pur.of_alone ggp (by simp [AV.purL, AV.pur]) (AC.of_body (c := (Tryz.f109.body.getD .skip)) Tryz.func109 rfl (by decide) ok109 ro109 (by exact (by decide : 0 ≤ 2)) ?_)
  refine walk hmix TOk.nil [] 3000 0 dr109 ?_
  delta Tryz.f109
  simp only [Option.getD_some]
  simp (maxSteps := 2000000) only [resA, resL, resVar, aload, ty0, rdCells, kw0, List.size_toArray, List.length_cons, List.length_nil, Nat.zero_add, List.range_succ, List.range_zero, List.nil_append, List.getElem?_toArray, List.getElem?_cons_zero, Go.Ab.put, ↓opK_some, ↓guK_none, kw1, roOf, aop, ↓roK_ok, Nat.reduceAdd, List.cons_append, aBuild, ev, upd, argTs, List.getD_nil, ofV, List.map_cons, List.map_nil, aFill, AV.isEl.eq_2, AV.cells.eq_2, Nat.reduceMul, Nat.reduceLeDiff, and_self, ↓reduceIte, splice, List.take_zero, List.drop_succ_cons, List.drop_zero, List.take_succ_cons, Nat.le_refl, List.drop_nil, List.append_nil, Option.map_some, List.getElem?_cons_succ, astore, AV.cells.eq_1, wrCells, reduceCtorEq, List.set_cons_zero, or_true, List.take_nil, Option.some.injEq, true_and]
  exact ⟨_, rfl, done_pur rfl rfl⟩
theorem ok42 : codeOk 15 (Tryz.f42.body.getD .skip) = true := by kernel_rfl
theorem ro42 : resOk 15 Tryz.f42.results = true := by kernel_rfl
theorem dr42 : todoDr [] [.code (Tryz.f42.body.getD .skip)] = true := by kernel_rfl
set_option maxHeartbeats 4000000 in
set_option maxRecDepth 400000 in
theorem shaped_pur (p q r : Int) (v : Bool) : Pur Tryz.prog GG 42 [I p, I q, I r, B v] (WT p q r false false false v) := by
  refine Pur.of_alone ggp (by simp [AV.purL, AV.pur]) (AC.of_body (c := (Tryz.f42.body.getD .skip)) Tryz.func42 rfl (by decide) ok42 ro42 (by exact (by decide : 4 ≤ 15)) ?_)
  refine walk hmix TOk.nil [] 3000 0 dr42 ?_
  delta Tryz.f42
  simp only [Option.getD_some]
  simp (maxSteps := 2000000) only [resA, resL, resVar, aload, ty0, rdCells, kw0, List.size_toArray, List.length_cons, List.length_nil, Nat.zero_add, List.range_succ, List.range_zero, List.nil_append, List.getElem?_toArray, List.getElem?_cons_zero, Go.Ab.put, ↓opK_some, ↓guK_none, kw1, roOf, aop, ↓roK_ok, Nat.reduceAdd, List.cons_append, ev, upd, reduceCtorEq, ↓reduceIte, argTs, List.getD_cons_zero, List.getElem?_cons_succ, Nat.reduceEqDiff, List.getD_cons_succ, aBuild, ofV, List.map_cons, List.map_nil, aFill, AV.isEl.eq_2, AV.cells.eq_2, Nat.reduceMul, Nat.reduceLeDiff, and_self, splice, List.take_zero, List.drop_succ_cons, List.drop_zero, List.take_succ_cons, Nat.le_refl, List.drop_nil, List.append_nil, Option.map_some, AV.cells.eq_1, astore, wrCells, List.set_cons_zero, or_true, List.take_nil, Option.some.injEq, true_and]
  exact ⟨_, rfl, done_pur rfl rfl⟩
theorem ok41 : codeOk 20 (Tryz.f41.body.getD .skip) = true := by kernel_rfl
theorem ro41 : resOk 20 Tryz.f41.results = true := by kernel_rfl
theorem dr41 : todoDr [] [.code (Tryz.f41.body.getD .skip)] = true := by kernel_rfl
set_option maxHeartbeats 4000000 in
set_option maxRecDepth 400000 in
theorem many_is (w : Wnt) (n : Nat) (h0 : dwchk 3 2 1 w.p w.q w.r = 0) (hn : (dd (w.rots.flatMap (plL 3 2 1))).length = n) : Pur Tryz.prog GG 41 [w.av, I n] (B true) := by
  have hm := spotsMany_pur 3 2 1 w
  rw [h0, if_pos rfl, whole_len, hn] at hm
  show Pur Tryz.prog GG 41 [WT w.p w.q w.r w.s w.t w.u w.v, I n] _
  refine Pur.of_alone ggp (by simp [AV.purL, AV.pur]) (AC.of_body (c := (Tryz.f41.body.getD .skip)) Tryz.func41 rfl (by decide) ok41 ro41 (by exact (by decide : 2 ≤ 20)) ?_)
  refine walk hmix TOk.nil [] 3000 0 dr41 ?_
  delta Tryz.f41
  simp only [Option.getD_some]
  simp (maxSteps := 2000000) only [resA, resL, resVar, Option.some.injEq, kw0, List.size_toArray, List.length_cons, List.length_nil, Nat.zero_add, Nat.reduceAdd, List.range_succ, List.range_zero, List.nil_append, List.cons_append, List.getElem?_toArray, List.getElem?_cons_zero, Go.Ab.put, ↓opK_some, ↓guK_none, kw1, roOf, aop, ev, argTs, List.getD_cons_zero, AV.isEl.eq_2, ↓reduceIte, AV.cells.eq_1, ↓roK_ok, List.getElem?_cons_succ, ofV, List.contains_nil, tcall, Tab.nil, List.map_nil, ↓roK_call, aload, ty0, rdCells, upd, Nat.reduceEqDiff, Nat.le_refl, List.drop_zero, List.take_succ_cons, List.take_nil, Option.map_some, List.map_cons, true_and]
  refine ⟨_, toVP some_pur, _, toVP hm, ?_⟩
  simp (maxSteps := 2000000) only [List.getElem?_cons_zero, Option.map_some, ↓roK_ok, kw1, List.getElem?_toArray, List.getElem?_cons_succ, Go.Ab.put, ↓opK_some, ↓guK_none, roOf, aop, ev, upd, Nat.reduceEqDiff, ↓reduceIte, symR_nil, kw0, List.size_toArray, List.length_cons, List.length_nil, Nat.zero_add, Nat.reduceAdd, List.range_succ, List.range_zero, List.nil_append, List.cons_append, aBin, ofV, aBinI, beq_self_eq_true, ↓guK_some, Option.bind_some, ↓tmK_some, ↓gsK_true, argTs, List.getD_cons_succ, List.getD_cons_zero, pickA, cond_true, reduceCtorEq, or_true, true_and]
  exact ⟨_, rfl, done_pur rfl rfl⟩
theorem ok12 : codeOk 15 (Tryz.f12.body.getD .skip) = true := by kernel_rfl
theorem ro12 : resOk 15 Tryz.f12.results = true := by kernel_rfl
theorem dr12 : todoDr [] [.code (Tryz.f12.body.getD .skip)] = true := by kernel_rfl
set_option maxHeartbeats 4000000 in
set_option maxRecDepth 400000 in
theorem alive12 : Pur Tryz.prog GG 12 [] (B true) := by
  have h1 := many_is ⟨1, 1, 1, false, false, false, false⟩ 6 (by decide +kernel) (by decide +kernel)
  have h2 := many_is ⟨3, 1, 1, false, false, false, false⟩ 2 (by decide +kernel) (by decide +kernel)
  have h3 := many_is ⟨2, 1, 1, false, false, false, false⟩ 6 (by decide +kernel) (by decide +kernel)
  have h4 := many_is ⟨2, 1, 1, false, false, false, true⟩ 9 (by decide +kernel) (by decide +kernel)
  refine Pur.of_alone ggp (by simp [AV.purL, AV.pur]) (AC.of_body (c := (Tryz.f12.body.getD .skip)) Tryz.func12 rfl (by decide) ok12 ro12 (by exact (by decide : 0 ≤ 15)) ?_)
  refine walk hmix TOk.nil [] 3000 0 dr12 ?_
  delta Tryz.f12
  simp only [Option.getD_some]
  simp (maxSteps := 2000000) only [resA, resL, resVar, Option.some.injEq, kw0, List.size_toArray, List.length_cons, List.length_nil, Nat.zero_add, List.range_succ, List.range_zero, List.nil_append, List.getElem?_toArray, List.getElem?_cons_zero, Go.Ab.put, ↓opK_some, ↓guK_none, kw1, roOf, aop, ev, ofV, ↓roK_ok, Nat.reduceAdd, List.cons_append, tcall, Tab.nil, List.map_cons, List.map_nil, ↓roK_call, true_and]
  refine AC.pur (shaped_pur 1 1 1 false) ?_
  refine walk hmix TOk.nil [] 3000 0 (by kernel_rfl) ?_
  simp (maxSteps := 2000000) only [kw0, List.getElem?_toArray, List.getElem?_cons_succ, List.getElem?_cons_zero, Go.Ab.put, ↓opK_some, ↓guK_none, kw1, roOf, tcall, ev, Tab.nil, List.map_cons, upd, ↓reduceIte, ofV, List.map_nil, ↓roK_call]
  refine AC.pur h1 ?_
  refine walk hmix TOk.nil [] 3000 0 (by kernel_rfl) ?_
  simp (maxSteps := 2000000) only [kw0, List.getElem?_toArray, List.getElem?_cons_succ, List.getElem?_cons_zero, Go.Ab.put, ↓opK_some, ↓guK_none, kw1, roOf, aop, ev, upd, ↓reduceIte, ↓roK_ok, ↓guK_some, Option.bind_some, ↓tmK_some, ↓gsK_true, beq_self_eq_true, tcall, Tab.nil, List.map_cons, ofV, List.map_nil, ↓roK_call, true_and]
  refine AC.pur (shaped_pur 3 1 1 false) ?_
  refine walk hmix TOk.nil [] 3000 0 (by kernel_rfl) ?_
  simp (maxSteps := 2000000) only [kw0, List.getElem?_toArray, List.getElem?_cons_succ, List.getElem?_cons_zero, Go.Ab.put, ↓opK_some, ↓guK_some, Option.bind_some, ↓tmK_some, kw1, upd, Nat.reduceEqDiff, ↓reduceIte, ↓gsK_true, beq_self_eq_true, roOf, tcall, ev, Tab.nil, List.map_cons, ofV, List.map_nil, ↓roK_call]
  refine AC.pur h2 ?_
  refine walk hmix TOk.nil [] 3000 0 (by kernel_rfl) ?_
  simp (maxSteps := 2000000) only [kw0, List.getElem?_toArray, List.getElem?_cons_succ, List.getElem?_cons_zero, Go.Ab.put, ↓opK_some, ↓guK_none, kw1, roOf, aop, ev, upd, Nat.reduceEqDiff, ↓reduceIte, pickA, ofV, cond_true, ↓roK_ok, ↓guK_some, Option.bind_some, ↓tmK_some, ↓gsK_true, beq_self_eq_true, tcall, Tab.nil, List.map_cons, List.map_nil, ↓roK_call, true_and]
  refine AC.pur (shaped_pur 2 1 1 false) ?_
  refine walk hmix TOk.nil [] 3000 0 (by kernel_rfl) ?_
  simp (maxSteps := 2000000) only [kw0, List.getElem?_toArray, List.getElem?_cons_succ, List.getElem?_cons_zero, Go.Ab.put, ↓opK_some, ↓guK_some, Option.bind_some, ↓tmK_some, kw1, upd, Nat.reduceEqDiff, ↓reduceIte, ↓gsK_true, beq_self_eq_true, roOf, tcall, ev, Tab.nil, List.map_cons, ofV, List.map_nil, ↓roK_call]
  refine AC.pur h3 ?_
  refine walk hmix TOk.nil [] 3000 0 (by kernel_rfl) ?_
  simp (maxSteps := 2000000) only [kw0, List.getElem?_toArray, List.getElem?_cons_succ, List.getElem?_cons_zero, Go.Ab.put, ↓opK_some, ↓guK_none, kw1, roOf, aop, ev, upd, Nat.reduceEqDiff, ↓reduceIte, pickA, ofV, cond_true, ↓roK_ok, ↓guK_some, Option.bind_some, ↓tmK_some, ↓gsK_true, beq_self_eq_true, tcall, Tab.nil, List.map_cons, List.map_nil, ↓roK_call, true_and]
  refine AC.pur (shaped_pur 2 1 1 true) ?_
  refine walk hmix TOk.nil [] 3000 0 (by kernel_rfl) ?_
  simp (maxSteps := 2000000) only [kw0, List.getElem?_toArray, List.getElem?_cons_succ, List.getElem?_cons_zero, Go.Ab.put, ↓opK_some, ↓guK_some, Option.bind_some, ↓tmK_some, kw1, upd, Nat.reduceEqDiff, ↓reduceIte, ↓gsK_true, beq_self_eq_true, roOf, tcall, ev, Tab.nil, List.map_cons, ofV, List.map_nil, ↓roK_call]
  refine AC.pur h4 ?_
  refine walk hmix TOk.nil [] 3000 0 (by kernel_rfl) ?_
  simp (maxSteps := 2000000) only [kw0, List.getElem?_toArray, List.getElem?_cons_succ, List.getElem?_cons_zero, Go.Ab.put, ↓opK_some, ↓guK_none, kw1, roOf, aop, ev, upd, Nat.reduceEqDiff, ↓reduceIte, pickA, ofV, cond_true, ↓roK_ok, reduceCtorEq, or_true, true_and]
  exact ⟨_, rfl, done_pur rfl rfl⟩
end Go.Ab.Pd
