/- One of the texts that this claim stands on. -/
import Derived.Test.YtfiglmdmnfdldaaGreatDoorEv31
import Derived.Test.YtfiglmdmnfdldaaGreatDoorEv44
set_option linter.unusedVariables false
set_option linter.unusedSimpArgs false
set_option linter.unusedSimpArgs false
set_option linter.unusedVariables false
namespace Go.Ab.Pd
open Go.Proofs
def inS (n : Int) (ws : List Int) (k : Int) : Bool := decide (0 ≤ k ∧ k < n) && bitAt ws k.toNat
set_option maxHeartbeats 4000000 in
set_option maxRecDepth 400000 in
theorem has_is {n : Int} {ws : List Int} (hw : ∀ w ∈ ws, inU w) (hc : schk n ws = 0) (k : Int) : Pur Tryz.prog GG 76 [I n, .isl (ws.map U), I k] (.tup [B (inS n ws k), I 0]) := by
  obtain ⟨hn, lw, _⟩ := (schk_bits hw).1 hc
  have p := scheck_pur n ws
  rw [hc] at p
  unfold inS
  by_cases h0 : 0 ≤ k
  · by_cases h1 : k < n
    · have hq0 : k.tdiv 64 = k / 64 := Int.tdiv_eq_ediv_of_nonneg h0
      have hm0 : k.tmod 64 = k % 64 := Int.tmod_eq_emod_of_nonneg h0
      have hkq : (k.tdiv 64).toNat < ws.length := by omega
      have hkw := wrapL (n := k.tdiv 64) (by omega) (by omega)
      have hkm := Int.tmod_nonneg 64 h0
      have hkd := Int.tdiv_nonneg (b := 64) h0 (by decide)
      have hgd := getD_map U ws 0 hkq
      have hgu := getD_inU hw (k.tdiv 64).toNat
      have d0 : decide (0 ≤ k) = true := decide_eq_true h0
      have d1 : decide (k < n) = true := decide_eq_true h1
      rw [decide_eq_true ⟨h0, h1⟩, Bool.true_and]
      refine Pur.of_alone ggp (by simp [AV.purL, AV.pur]) (AC.of_body (c := (Tryz.f76.body.getD .skip)) Tryz.func76 rfl (by decide) ok76 ro76 (by exact (by decide : 3 ≤ 34)) ?_)
      refine walk hmix T23_ok [] 3000 0 dr76 ?_
      delta Tryz.f76
      simp only [Option.getD_some]
      simp (maxSteps := 2000000) only [T23, T22, T21, T20, T19, T18, T17, T16, T13, T12, T11, T10, T9, T8, T7, T6, T5, T4, T3, T2, T1, T0, resA, resL, resVar, Option.some.injEq, kw0, List.size_toArray, List.length_cons, List.length_nil, Nat.zero_add, Nat.reduceAdd, List.range_succ, List.range_zero, List.nil_append, List.cons_append, List.getElem?_toArray, List.getElem?_cons_zero, Go.Ab.put, ↓opK_some, ↓guK_none, kw1, roOf, aop, ev, ofV, ↓roK_ok, List.getElem?_cons_succ, upd, reduceCtorEq, ↓reduceIte, argTs, List.getD_cons_zero, Nat.reduceEqDiff, List.getD_cons_succ, tcall, Tab.ext, Tab.nil, List.map_cons, List.map_nil, ↓roK_call, true_and]
      refine AC.pur p ?_
      refine walk hmix T23_ok [] 3000 0 (by kernel_rfl) ?_
      simp (maxSteps := 2000000) only [T23, T22, T21, T20, T19, T18, T17, T16, T13, T12, T11, T10, T9, T8, T7, T6, T5, T4, T3, T2, T1, T0, kw0, List.getElem?_toArray, List.getElem?_cons_succ, List.getElem?_cons_zero, Go.Ab.put, ↓opK_some, ↓guK_none, kw1, roOf, aop, ev, upd, ↓reduceIte, ↓roK_ok, List.size_toArray, List.length_cons, List.length_nil, Nat.zero_add, Nat.reduceAdd, List.range_succ, List.range_zero, List.nil_append, List.cons_append, aBin, ofV, aBinI, bne_eq_decide', ne_eq, not_true_eq_false, decide_false, Option.map_some, ↓gdK_false, Nat.reduceEqDiff, argTs, List.getD_cons_succ, List.getD_cons_zero, d0, ↓guK_some, Option.bind_some, ↓tmK_some, ↓gsK_true, beq_self_eq_true, reduceCtorEq, d1, pickA, cond_true, Int.reduceEq, not_false_eq_true, hkw, aInt, ty1, List.length_map, hgd, AV.cells.eq_2, and_true, aload, rdCells, Nat.le_refl, List.drop_zero, List.take_succ_cons, List.take_nil, beq_eq_decide', or_true, true_and]
      refine ⟨by omega, hkm, _, rfl, done_pur rfl ?_⟩
      unfold bitAt
      rw [show k.toNat / 64 = (k.tdiv 64).toNat by omega, show k.toNat % 64 = (k.tmod 64).toNat by omega]
      generalize ws.getD (k.tdiv 64).toNat 0 = w at hgu
      have hj : (k.tmod 64).toNat < 64 := by omega
      generalize (k.tmod 64).toNat = j at hj
      obtain ⟨x, rfl⟩ : ∃ x : Nat, w = (x : Int) := ⟨w.toNat, by unfold inU at hgu; omega⟩
      have hx : x < 2 ^ 64 := by unfold inU at hgu; omega
      have hle : x / 2 ^ j ≤ x := Nat.div_le_self _ _
      have a1 := andW_nat (x := ((x / 2 ^ j : Nat) : Int)) (y := 1) (nU (by omega)) ⟨by decide, by decide⟩
      unfold andW at a1
      rw [show min j IntKind.u64.bits = j from Nat.min_eq_left (by rw [show IntKind.u64.bits = 64 from rfl]; omega), show (2 : Int) ^ j = ((2 ^ j : Nat) : Int) by push_cast; rfl, fdiv_nat, a1, Int.toNat_natCast, Int.toNat_natCast, Nat.testBit_eq_decide_div_mod_eq, show (1 : Int).toNat = 1 from rfl, Nat.and_one_is_mod]
      have : decide (((x / 2 ^ j % 2 : Nat) : Int) = 1) = decide (x / 2 ^ j % 2 = 1) := decide_eq_decide.2 (by omega)
      rw [this]
    · have d0 : decide (0 ≤ k) = true := decide_eq_true h0
      have d1 : decide (k < n) = false := decide_eq_false h1
      rw [decide_eq_false (fun h => h1 h.2), Bool.false_and]
      refine Pur.of_alone ggp (by simp [AV.purL, AV.pur]) (AC.of_body (c := (Tryz.f76.body.getD .skip)) Tryz.func76 rfl (by decide) ok76 ro76 (by exact (by decide : 3 ≤ 34)) ?_)
      refine walk hmix T23_ok [] 3000 0 dr76 ?_
      delta Tryz.f76
      simp only [Option.getD_some]
      simp (maxSteps := 2000000) only [T23, T22, T21, T20, T19, T18, T17, T16, T13, T12, T11, T10, T9, T8, T7, T6, T5, T4, T3, T2, T1, T0, resA, resL, resVar, Option.some.injEq, kw0, List.size_toArray, List.length_cons, List.length_nil, Nat.zero_add, Nat.reduceAdd, List.range_succ, List.range_zero, List.nil_append, List.cons_append, List.getElem?_toArray, List.getElem?_cons_zero, Go.Ab.put, ↓opK_some, ↓guK_none, kw1, roOf, aop, ev, ofV, ↓roK_ok, List.getElem?_cons_succ, upd, reduceCtorEq, ↓reduceIte, argTs, List.getD_cons_zero, Nat.reduceEqDiff, List.getD_cons_succ, tcall, Tab.ext, Tab.nil, List.map_cons, List.map_nil, ↓roK_call, true_and]
      refine AC.pur p ?_
      refine walk hmix T23_ok [] 3000 0 (by kernel_rfl) ?_
      simp (maxSteps := 2000000) only [T23, T22, T21, T20, T19, T18, T17, T16, T13, T12, T11, T10, T9, T8, T7, T6, T5, T4, T3, T2, T1, T0, kw0, List.getElem?_toArray, List.getElem?_cons_succ, List.getElem?_cons_zero, Go.Ab.put, ↓opK_some, ↓guK_none, kw1, roOf, aop, ev, upd, ↓reduceIte, ↓roK_ok, List.size_toArray, List.length_cons, List.length_nil, Nat.zero_add, Nat.reduceAdd, List.range_succ, List.range_zero, List.nil_append, List.cons_append, aBin, ofV, aBinI, bne_eq_decide', ne_eq, not_true_eq_false, decide_false, Option.map_some, ↓gdK_false, Nat.reduceEqDiff, argTs, List.getD_cons_succ, List.getD_cons_zero, d0, ↓guK_some, Option.bind_some, ↓tmK_some, ↓gsK_true, beq_self_eq_true, reduceCtorEq, d1, pickA, cond_true, ↓gsK_false, cond_false, or_true, true_and]
      exact ⟨_, rfl, done_pur rfl rfl⟩
  · have d0 : decide (0 ≤ k) = false := decide_eq_false h0
    rw [decide_eq_false (fun h => h0 h.1), Bool.false_and]
    refine Pur.of_alone ggp (by simp [AV.purL, AV.pur]) (AC.of_body (c := (Tryz.f76.body.getD .skip)) Tryz.func76 rfl (by decide) ok76 ro76 (by exact (by decide : 3 ≤ 34)) ?_)
    refine walk hmix T23_ok [] 3000 0 dr76 ?_
    delta Tryz.f76
    simp only [Option.getD_some]
    simp (maxSteps := 2000000) only [T23, T22, T21, T20, T19, T18, T17, T16, T13, T12, T11, T10, T9, T8, T7, T6, T5, T4, T3, T2, T1, T0, resA, resL, resVar, Option.some.injEq, kw0, List.size_toArray, List.length_cons, List.length_nil, Nat.zero_add, Nat.reduceAdd, List.range_succ, List.range_zero, List.nil_append, List.cons_append, List.getElem?_toArray, List.getElem?_cons_zero, Go.Ab.put, ↓opK_some, ↓guK_none, kw1, roOf, aop, ev, ofV, ↓roK_ok, List.getElem?_cons_succ, upd, reduceCtorEq, ↓reduceIte, argTs, List.getD_cons_zero, Nat.reduceEqDiff, List.getD_cons_succ, tcall, Tab.ext, Tab.nil, List.map_cons, List.map_nil, ↓roK_call, true_and]
    refine AC.pur p ?_
    refine walk hmix T23_ok [] 3000 0 (by kernel_rfl) ?_
    simp (maxSteps := 2000000) only [T23, T22, T21, T20, T19, T18, T17, T16, T13, T12, T11, T10, T9, T8, T7, T6, T5, T4, T3, T2, T1, T0, kw0, List.getElem?_toArray, List.getElem?_cons_succ, List.getElem?_cons_zero, Go.Ab.put, ↓opK_some, ↓guK_none, kw1, roOf, aop, ev, upd, ↓reduceIte, ↓roK_ok, List.size_toArray, List.length_cons, List.length_nil, Nat.zero_add, Nat.reduceAdd, List.range_succ, List.range_zero, List.nil_append, List.cons_append, aBin, ofV, aBinI, bne_eq_decide', ne_eq, not_true_eq_false, decide_false, Option.map_some, ↓gdK_false, Nat.reduceEqDiff, argTs, List.getD_cons_succ, List.getD_cons_zero, d0, ↓guK_some, Option.bind_some, ↓tmK_some, ↓gsK_false, pickA, cond_false, reduceCtorEq, or_true, true_and]
    exact ⟨_, rfl, done_pur rfl rfl⟩
end Go.Ab.Pd
