/- One of the texts that this claim stands on. -/
import Derived.Test.YtfiglmdmnfdldaaGreatEv41
import Derived.Test.YtfiglmdmnfdldaaGreatEv38
import Derived.Test.YtfiglmdmnfdldaaGreatEv40
import Derived.Test.YtfiglmdmnfdldaaGreatEv35
import Derived.Test.YtfiglmdmnfdldaaGreatEv12
set_option linter.unusedVariables false
set_option linter.unusedSimpArgs false
set_option linter.unusedSimpArgs false
set_option linter.unusedVariables false
namespace Go.Ab.Pd
open Go.Proofs
def holdV (a b c : Int) (xs ys : List Int) (x : Plc) : Bool := (nodesL a b c x.x x.y x.z x.p x.q x.r).all (fun k => !bitAt xs k.toNat) && (linksL a b c x.x x.y x.z x.p x.q x.r x.s x.t x.u).all (fun k => !bitAt ys k.toNat)
set_option maxHeartbeats 8000000 in
set_option maxRecDepth 400000 in
theorem holds_is {a b c : Int} {xs ys : List Int} (hx : ∀ w ∈ xs, inU w) (hy : ∀ w ∈ ys, inU w) (c1 : schk (manyV a b c) xs = 0) (c2 : schk (3 * manyV a b c) ys = 0) (P0 : Plc) (hk : P0.ok a b c) :
    Pur Tryz.prog GG 23 [.agg [I a, I b, I c], P0.av, .isl (xs.map U), .isl (ys.map U)] (.tup [B (holdV a b c xs ys P0), I 0]) := by
  obtain ⟨x, y, z, p, q, r, s, t, u⟩ := P0
  have hd := hk.1
  have hb := hk.2.1
  have hmu := okD_mul hd
  have hmv : manyV a b c = a * b * c := by rw [manyV, if_pos hd]
  have hn : 0 ≤ manyV a b c ∧ manyV a b c ≤ 4096 := by omega
  obtain ⟨hN1, lx, _⟩ := (schk_bits hx).1 c1
  obtain ⟨hN2, ly, _⟩ := (schk_bits hy).1 c2
  have wv1 : wordsV (manyV a b c) = (manyV a b c + 63) / 64 := by rw [wordsV, if_pos (by omega)]
  have wv2 : wordsV (3 * manyV a b c) = (3 * manyV a b c + 63) / 64 := by rw [wordsV, if_pos (by omega)]
  have q1 : IsSet (.isl (xs.map U)) := .isl hx
  have q2 : IsSet (.isl (ys.map U)) := .isl hy
  have p1 := scheck_pur (manyV a b c) xs
  have p2 := scheck_pur (3 * manyV a b c) ys
  rw [c1] at p1
  rw [c2] at p2
  have hfs := fsets_pur q1 q2 hn p1 p2
  have hlo : ∀ k ∈ srt (nodesL a b c x y z p q r), 0 ≤ k ∧ k < manyV a b c := fun k hk => by rw [hmv]; exact (nodes_mem hd hb (srt_mem.1 hk)).2
  have hll : ∀ k ∈ linksL a b c x y z p q r s t u, 0 ≤ k ∧ k < 3 * manyV a b c := fun k hk => by rw [hmv]; exact links_mem hd hb k hk
  have io := ofL_inU (manyV a b c) (srt (nodesL a b c x y z p q r))
  have il := ofL_inU (3 * manyV a b c) (linksL a b c x y z p q r s t u)
  have lo := ofL_length (manyV a b c) (srt (nodesL a b c x y z p q r))
  have ll := ofL_length (3 * manyV a b c) (linksL a b c x y z p q r s t u)
  have so := schk_ofL hN1 hlo
  have sl := schk_ofL hN2 hll
  have co1 := scheck_pur (manyV a b c) (ofL (manyV a b c) (srt (nodesL a b c x y z p q r)))
  have co2 := scheck_pur (3 * manyV a b c) (ofL (3 * manyV a b c) (linksL a b c x y z p q r s t u))
  rw [so] at co1
  rw [sl] at co2
  have pa1 := and_ok (manyV a b c) io hx (by omega) (by omega) (by omega) co1 p1
  have pa2 := and_ok (3 * manyV a b c) il hy (by omega) (by omega) (by omega) co2 p2
  have cz1 := scheck_pur (manyV a b c) (List.zipWith andW (ofL (manyV a b c) (srt (nodesL a b c x y z p q r))) xs)
  have cz2 := scheck_pur (3 * manyV a b c) (List.zipWith andW (ofL (3 * manyV a b c) (linksL a b c x y z p q r s t u)) ys)
  rw [schk_and io hx so c1] at cz1
  rw [schk_and il hy sl c2] at cz2
  have pm1 := smany_ok (manyV a b c) (by rw [List.length_zipWith]; omega) cz1
  have pm2 := smany_ok (3 * manyV a b c) (by rw [List.length_zipWith]; omega) cz2
  obtain ⟨n1, m1⟩ := apart_bits hN1 hlo hx c1
  obtain ⟨n2, m2⟩ := apart_bits hN2 hll hy c2
  have w3 := wrapL (n := 3 * manyV a b c) (by omega) (by omega)
  have h1 := q1.pur
  have h2 := q2.pur
  obtain ⟨c11, c12, c13⟩ := q1.cell
  obtain ⟨c21, c22, c23⟩ := q2.cell
  rw [if_pos ⟨rfl, rfl⟩] at hfs
  have hV : holdV a b c xs ys ⟨x, y, z, p, q, r, s, t, u⟩ = decide (IntKind.i64.wrap (manyW (List.zipWith andW (ofL (manyV a b c) (srt (nodesL a b c x y z p q r))) xs) + manyW (List.zipWith andW (ofL (3 * manyV a b c) (linksL a b c x y z p q r s t u)) ys)) = 0) := by
    rw [wrapL (by omega) (by omega), Bool.eq_iff_iff, decide_eq_true_eq, holdV]
    simp only [Bool.and_eq_true, List.all_eq_true, Bool.not_eq_true']
    constructor
    · rintro ⟨k1, k2⟩
      rw [m1.2 fun k hk => k1 k (srt_mem.1 hk), m2.2 k2]; rfl
    · intro h0
      exact ⟨fun k hk => m1.1 (by omega) k (srt_mem.2 hk), m2.1 (by omega)⟩
  rw [hV]
  have hk' : okPl a b c x y z p q r s t u := hk
  show Pur Tryz.prog GG 23 [.agg [I a, I b, I c], PL x y z p q r s t u, .isl (xs.map U), .isl (ys.map U)] _
  generalize manyW (List.zipWith andW (ofL (manyV a b c) (srt (nodesL a b c x y z p q r))) xs) = M1 at pm1
  generalize manyW (List.zipWith andW (ofL (3 * manyV a b c) (linksL a b c x y z p q r s t u)) ys) = M2 at pm2
  refine Pur.of_alone ggp (by simp [AV.purL, AV.pur, h1, h2]) (AC.of_body (c := (Tryz.f23.body.getD .skip)) Tryz.func23 rfl (by decide) ok23 ro23 (by exact (by decide : 4 ≤ 68)) ?_)
  refine walk hmix T22_ok [] 3000 0 dr23 ?_
  delta Tryz.f23
  simp only [Option.getD_some]
  simp (maxSteps := 2000000) only [T22, T21, T20, T19, T18, T17, T16, T13, T12, T11, T10, T9, T8, T7, T6, T5, T4, T3, T2, T1, T0, resA, resL, resVar, Option.some.injEq, kw0, List.size_toArray, List.length_cons, List.length_nil, Nat.zero_add, Nat.reduceAdd, List.range_succ, List.range_zero, List.nil_append, List.cons_append, List.getElem?_toArray, List.getElem?_cons_zero, Go.Ab.put, ↓opK_some, ↓guK_none, kw1, roOf, aop, ev, argTs, List.getD_cons_zero, AV.isEl.eq_2, ↓reduceIte, AV.cells.eq_1, ↓roK_ok, List.getElem?_cons_succ, upd, Nat.reduceEqDiff, List.getD_cons_succ, ofV, aload, ty0, rdCells, Nat.le_refl, List.drop_zero, List.take_succ_cons, List.take_nil, Option.map_some, ty2, tcall, Tab.ext, g69, List.map_cons, List.map_nil, List.append_nil, hk', aBin, aBinI, bne_eq_decide', ne_eq, not_true_eq_false, decide_false, ↓gdK_false, g44, Tab.nil, ↓roK_call, true_and]
  refine AC.pur hfs ?_
  refine walk hmix T22_ok [] 3000 0 (by kernel_rfl) ?_
  simp (maxSteps := 2000000) only [T22, T21, T20, T19, T18, T17, T16, T13, T12, T11, T10, T9, T8, T7, T6, T5, T4, T3, T2, T1, T0, kw0, List.getElem?_toArray, List.getElem?_cons_succ, List.getElem?_cons_zero, Go.Ab.put, ↓opK_some, ↓guK_none, kw1, roOf, aop, ev, upd, ↓reduceIte, ↓roK_ok, List.size_toArray, List.length_cons, List.length_nil, Nat.zero_add, Nat.reduceAdd, List.range_succ, List.range_zero, List.nil_append, List.cons_append, aBin, ofV, aBinI, bne_eq_decide', ne_eq, not_true_eq_false, decide_false, Option.map_some, ↓gdK_false, Nat.reduceEqDiff, argTs, List.getD_cons_succ, List.getD_cons_zero, tcall, Tab.ext, Tab.nil, List.map_cons, List.map_nil, ↓roK_call, true_and]
  refine both_ac hn pa1 pa2 ?_
  refine walk hmix T22_ok [] 3000 0 (by kernel_rfl) ?_
  simp (maxSteps := 2000000) only [T22, T21, T20, T19, T18, T17, T16, T13, T12, T11, T10, T9, T8, T7, T6, T5, T4, T3, T2, T1, T0, kw0, List.getElem?_toArray, List.getElem?_cons_succ, List.getElem?_cons_zero, Go.Ab.put, ↓opK_some, ↓guK_none, kw1, roOf, aop, ev, upd, ↓reduceIte, ↓roK_ok, Option.map_some, Nat.reduceEqDiff, List.size_toArray, List.length_cons, List.length_nil, Nat.zero_add, Nat.reduceAdd, List.range_succ, List.range_zero, List.nil_append, List.cons_append, tcall, Tab.ext, Tab.nil, List.map_cons, List.map_nil, ↓roK_call, true_and]
  refine AC.pur pm1 ?_
  refine walk hmix T22_ok [] 3000 0 (by kernel_rfl) ?_
  simp (maxSteps := 2000000) only [T22, T21, T20, T19, T18, T17, T16, T13, T12, T11, T10, T9, T8, T7, T6, T5, T4, T3, T2, T1, T0, kw0, List.getElem?_toArray, List.getElem?_cons_succ, List.getElem?_cons_zero, Go.Ab.put, ↓opK_some, ↓guK_none, kw1, roOf, aop, ev, upd, ↓reduceIte, ↓roK_ok, Option.map_some, Nat.reduceEqDiff, List.size_toArray, List.length_cons, List.length_nil, Nat.zero_add, Nat.reduceAdd, List.range_succ, List.range_zero, List.nil_append, List.cons_append, aBin, ofV, aBinI, w3, tcall, Tab.ext, Tab.nil, List.map_cons, List.map_nil, ↓roK_call, true_and]
  refine AC.pur pm2 ?_
  refine walk hmix T22_ok [] 3000 0 (by kernel_rfl) ?_
  simp (maxSteps := 2000000) only [T22, T21, T20, T19, T18, T17, T16, T13, T12, T11, T10, T9, T8, T7, T6, T5, T4, T3, T2, T1, T0, kw0, List.getElem?_toArray, List.getElem?_cons_succ, List.getElem?_cons_zero, Go.Ab.put, ↓opK_some, ↓guK_none, kw1, roOf, aop, ev, upd, ↓reduceIte, ↓roK_ok, Option.map_some, Nat.reduceEqDiff, List.size_toArray, List.length_cons, List.length_nil, Nat.zero_add, Nat.reduceAdd, List.range_succ, List.range_zero, List.nil_append, List.cons_append, aBin, aBinI, ofV, beq_eq_decide', reduceCtorEq, or_true, true_and]
  exact ⟨_, rfl, done_pur rfl rfl⟩
end Go.Ab.Pd

set_option linter.unusedSimpArgs false
set_option linter.unusedVariables false
namespace Go.Ab.Pd
open Go.Proofs
def fitT (a b c : Int) (t : Wnt) : Prop := t.p ≤ a ∧ t.q ≤ b ∧ t.r ≤ c
instance (a b c : Int) (t : Wnt) : Decidable (fitT a b c t) := by unfold fitT; infer_instance
theorem ok56 : codeOk 26 (Tryz.f56.body.getD .skip) = true := by kernel_rfl
theorem ro56 : resOk 26 Tryz.f56.results = true := by kernel_rfl
theorem dr56 : todoDr [] [.code (Tryz.f56.body.getD .skip)] = true := by kernel_rfl
set_option maxHeartbeats 4000000 in
set_option maxRecDepth 400000 in
theorem fits1_pur (a b c : Int) (t : Wnt) : Pur Tryz.prog GG 56 [t.av, .iptr [I a, I b, I c] 0] (B (decide (fitT a b c t))) := by
  show Pur Tryz.prog GG 56 [WT t.p t.q t.r t.s t.t t.u t.v, .iptr [I a, I b, I c] 0] _
  by_cases h1 : t.p ≤ a
  · have d1 := decide_eq_true h1
    by_cases h2 : t.q ≤ b
    · have d2 := decide_eq_true h2
      refine Pur.of_alone ggp (by simp [AV.purL, AV.pur]) (AC.of_body (c := (Tryz.f56.body.getD .skip)) Tryz.func56 rfl (by decide) ok56 ro56 (by exact (by decide : 2 ≤ 26)) ?_)
      refine walk hmix TOk.nil [] 3000 0 dr56 ?_
      delta Tryz.f56
      simp only [Option.getD_some]
      simp (maxSteps := 2000000) only [resA, resL, resVar, Option.some.injEq, kw0, List.size_toArray, List.length_cons, List.length_nil, Nat.zero_add, Nat.reduceAdd, List.range_succ, List.range_zero, List.nil_append, List.cons_append, List.getElem?_toArray, List.getElem?_cons_zero, Go.Ab.put, ↓opK_some, ↓guK_none, kw1, roOf, aop, ev, argTs, List.getD_cons_zero, AV.isEl.eq_2, ↓reduceIte, AV.cells.eq_1, ↓roK_ok, List.getElem?_cons_succ, ofV, ty0, ptrAdd, upd, Nat.reduceEqDiff, Nat.add_zero, Option.map_some, aInt, Int.reduceLE, Int.reduceLT, and_self, Int.toNat_zero, Nat.reduceMul, aload, rdCells, Nat.reduceLeDiff, List.drop_zero, List.take_succ_cons, List.take_zero, List.getD_cons_succ, aBin, aBinI, d1, ↓guK_some, Option.bind_some, ↓tmK_some, ↓gsK_true, beq_self_eq_true, Int.toNat_one, List.drop_succ_cons, d2, pickA, cond_true, Int.reduceToNat, Nat.le_refl, List.take_nil, reduceCtorEq, or_true, true_and]
      exact ⟨_, rfl, done_pur rfl (by unfold fitT; simp [h1, h2])⟩
    · have d2 := decide_eq_false h2
      refine Pur.of_alone ggp (by simp [AV.purL, AV.pur]) (AC.of_body (c := (Tryz.f56.body.getD .skip)) Tryz.func56 rfl (by decide) ok56 ro56 (by exact (by decide : 2 ≤ 26)) ?_)
      refine walk hmix TOk.nil [] 3000 0 dr56 ?_
      delta Tryz.f56
      simp only [Option.getD_some]
      simp (maxSteps := 2000000) only [resA, resL, resVar, Option.some.injEq, kw0, List.size_toArray, List.length_cons, List.length_nil, Nat.zero_add, Nat.reduceAdd, List.range_succ, List.range_zero, List.nil_append, List.cons_append, List.getElem?_toArray, List.getElem?_cons_zero, Go.Ab.put, ↓opK_some, ↓guK_none, kw1, roOf, aop, ev, argTs, List.getD_cons_zero, AV.isEl.eq_2, ↓reduceIte, AV.cells.eq_1, ↓roK_ok, List.getElem?_cons_succ, ofV, ty0, ptrAdd, upd, Nat.reduceEqDiff, Nat.add_zero, Option.map_some, aInt, Int.reduceLE, Int.reduceLT, and_self, Int.toNat_zero, Nat.reduceMul, aload, rdCells, Nat.reduceLeDiff, List.drop_zero, List.take_succ_cons, List.take_zero, List.getD_cons_succ, aBin, aBinI, d1, ↓guK_some, Option.bind_some, ↓tmK_some, ↓gsK_true, beq_self_eq_true, Int.toNat_one, List.drop_succ_cons, d2, pickA, cond_true, ↓gsK_false, cond_false, reduceCtorEq, or_true, true_and]
      exact ⟨_, rfl, done_pur rfl (by unfold fitT; simp [h1, h2])⟩
  · have d1 := decide_eq_false h1
    refine Pur.of_alone ggp (by simp [AV.purL, AV.pur]) (AC.of_body (c := (Tryz.f56.body.getD .skip)) Tryz.func56 rfl (by decide) ok56 ro56 (by exact (by decide : 2 ≤ 26)) ?_)
    refine walk hmix TOk.nil [] 3000 0 dr56 ?_
    delta Tryz.f56
    simp only [Option.getD_some]
    simp (maxSteps := 2000000) only [resA, resL, resVar, Option.some.injEq, kw0, List.size_toArray, List.length_cons, List.length_nil, Nat.zero_add, Nat.reduceAdd, List.range_succ, List.range_zero, List.nil_append, List.cons_append, List.getElem?_toArray, List.getElem?_cons_zero, Go.Ab.put, ↓opK_some, ↓guK_none, kw1, roOf, aop, ev, argTs, List.getD_cons_zero, AV.isEl.eq_2, ↓reduceIte, AV.cells.eq_1, ↓roK_ok, List.getElem?_cons_succ, ofV, ty0, ptrAdd, upd, Nat.reduceEqDiff, Nat.add_zero, Option.map_some, aInt, Int.reduceLE, Int.reduceLT, and_self, Int.toNat_zero, Nat.reduceMul, aload, rdCells, Nat.reduceLeDiff, List.drop_zero, List.take_succ_cons, List.take_zero, List.getD_cons_succ, aBin, aBinI, d1, ↓guK_some, Option.bind_some, ↓tmK_some, ↓gsK_false, pickA, cond_false, reduceCtorEq, or_true, true_and]
    exact ⟨_, rfl, done_pur rfl (by unfold fitT; simp [h1])⟩
theorem ok18 : codeOk 23 (Tryz.f18.body.getD .skip) = true := by kernel_rfl
theorem ro18 : resOk 23 Tryz.f18.results = true := by kernel_rfl
theorem dr18 : todoDr [] [.code (Tryz.f18.body.getD .skip)] = true := by kernel_rfl
set_option maxHeartbeats 8000000 in
set_option maxRecDepth 400000 in
theorem fits_pur {a b c : Int} (hd : okD a b c) (w : Wnt) (hw : okW w.p w.q w.r) : Pur Tryz.prog GG 18 [.agg [I a, I b, I c], w.av] (.tup [B (w.turns.any fun t => decide (fitT a b c t)), I 0]) := by
  have hk := chk_ok.2 hd
  show Pur Tryz.prog GG 18 [.agg [I a, I b, I c], WT w.p w.q w.r w.s w.t w.u w.v] _
  refine Pur.of_alone ggp (by simp [AV.purL, AV.pur]) (AC.of_body (c := (Tryz.f18.body.getD .skip)) Tryz.func18 rfl (by decide) ok18 ro18 (by exact (by decide : 2 ≤ 23)) ?_)
  refine walk hmix S4_ok [] 3000 0 dr18 ?_
  delta Tryz.f18
  simp only [Option.getD_some]
  simp (maxSteps := 2000000) only [S4, S3, S2, S1, T23, T22, T21, T20, T19, T18, T17, T16, T13, T12, T11, T10, T9, T8, T7, T6, T5, T4, T3, T2, T1, T0, resA, resL, resVar, Option.some.injEq, kw0, List.size_toArray, List.length_cons, List.length_nil, Nat.zero_add, Nat.reduceAdd, List.range_succ, List.range_zero, List.nil_append, List.cons_append, List.getElem?_toArray, List.getElem?_cons_zero, Go.Ab.put, ↓opK_some, ↓guK_none, kw1, roOf, aop, ev, argTs, List.getD_cons_zero, AV.isEl.eq_2, ↓reduceIte, AV.cells.eq_1, ↓roK_ok, List.getElem?_cons_succ, upd, Nat.reduceEqDiff, List.getD_cons_succ, ofV, aload, ty0, rdCells, Nat.le_refl, List.drop_zero, List.take_succ_cons, List.take_nil, Option.map_some, tcall, Tab.ext, g54, List.map_cons, List.map_nil, List.append_nil, hk, aBin, aBinI, bne_eq_decide', ne_eq, not_true_eq_false, decide_false, ↓gdK_false, Tab.nil, ↓roK_call, true_and]
  refine AC.pur (turnsA_pur w hw) ?_
  refine walk hmix S4_ok [] 3000 0 (by kernel_rfl) ?_
  simp (maxSteps := 2000000) only [S4, S3, S2, S1, T23, T22, T21, T20, T19, T18, T17, T16, T13, T12, T11, T10, T9, T8, T7, T6, T5, T4, T3, T2, T1, T0, kw0, List.getElem?_toArray, List.getElem?_cons_succ, List.getElem?_cons_zero, Go.Ab.put, ↓opK_some, ↓guK_none, kw1, roOf, aop, ev, upd, ↓reduceIte, ↓roK_ok, Option.map_some, Nat.reduceEqDiff, List.size_toArray, List.length_cons, List.length_nil, Nat.zero_add, Nat.reduceAdd, List.range_succ, List.range_zero, List.nil_append, List.cons_append, List.map_nil, List.map_cons, tcall, Tab.ext, Tab.nil, ↓roK_call, true_and]
  refine containsW (pr := fun t => decide (fitT a b c t)) (by have := w.turns_len; omega) ?_ ?_
  · intro t K ht hK
    refine AC.view ggp (n := 3) (args' := [t.av, .iptr [I a, I b, I c] 0]) ?_ ?_ rfl (fits1_pur a b c t) hK
    · simp [mapO, frz, Wnt.pur, AV.pur]
    · simp [AV.purL, AV.pur, Wnt.pur]
  · skip
    refine walk hmix S4_ok [] 3000 0 (by kernel_rfl) ?_
    simp (maxSteps := 2000000) only [S4, S3, S2, S1, T23, T22, T21, T20, T19, T18, T17, T16, T13, T12, T11, T10, T9, T8, T7, T6, T5, T4, T3, T2, T1, T0, kw0, List.getElem?_toArray, List.getElem?_cons_succ, List.getElem?_cons_zero, Go.Ab.put, ↓opK_some, ↓guK_none, kw1, roOf, aop, ev, upd, Nat.reduceEqDiff, ↓reduceIte, ↓roK_ok, reduceCtorEq, or_true, true_and]
    exact ⟨_, rfl, done_pur rfl rfl⟩
theorem turns_okW {w t : Wnt} (hw : okW w.p w.q w.r) (ht : t ∈ w.turns) : okW t.p t.q t.r := by
  have h := Wnt.rots_mem.1 ht
  unfold Wnt.rots at h
  unfold okW at *
  cases hv : w.v
  · rw [hv] at h
    simp only [List.mem_singleton] at h
    rw [h]; exact hw
  · rw [hv] at h
    simp only [List.mem_cons, List.not_mem_nil, or_false] at h
    rcases h with rfl | rfl | rfl | rfl | rfl | rfl <;> (simp only [Wnt.rot]; omega)
theorem whole_fits {a b c : Int} (hd : okD a b c) {w : Wnt} (hw : okW w.p w.q w.r) : (w.turns.any fun t => decide (fitT a b c t)) = decide (0 < (wholeL a b c w).length) := by
  rw [Bool.eq_iff_iff, List.any_eq_true, decide_eq_true_eq, List.length_pos_iff_exists_mem]
  constructor
  · rintro ⟨t, ht, hf⟩
    have hf := of_decide_eq_true hf
    have ho := turns_okW hw ht
    refine ⟨⟨0, 0, 0, t.p, t.q, t.r, torV t.s t.p, torV t.t t.q, torV t.u t.r⟩, (wholeL_mem hd).2 ⟨⟨hd, ?_, ?_, ?_, ?_, fun _ => rfl, fun _ => rfl, fun _ => rfl⟩, List.any_eq_true.2 ⟨t, ht, decide_eq_true ⟨⟨rfl, rfl, rfl⟩, rfl, rfl, rfl⟩⟩⟩⟩
    · unfold fitT at hf
      unfold okW at ho
      unfold okD at hd
      unfold okB ok1
      simp only
      omega
    all_goals
      intro h1 h2
      simp only [torV, Bool.and_eq_true, decide_eq_true_eq] at h1 h2
      omega
  · rintro ⟨x, hx⟩
    obtain ⟨h1, h2⟩ := (wholeL_mem hd).1 hx
    obtain ⟨t, ht, hi⟩ := List.any_eq_true.1 h2
    have hi := of_decide_eq_true hi
    refine ⟨t, ht, decide_eq_true ?_⟩
    have hb := h1.2.1
    unfold okB ok1 at hb
    obtain ⟨⟨i1, i2, i3⟩, _⟩ := hi
    unfold fitT
    omega
theorem nodes_some {a b c : Int} {x : Plc} (h : x.ok a b c) : ∃ k, k ∈ nodesL a b c x.x x.y x.z x.p x.q x.r ∧ 0 ≤ k ∧ k < manyV a b c := by
  have hd := h.1
  have hb := h.2.1
  have hmv : manyV a b c = a * b * c := by rw [manyV, if_pos hd]
  have hn0 : 0 < (nodesL a b c x.x x.y x.z x.p x.q x.r).length := by
    rw [nodesL_length]
    unfold okB ok1 at hb
    exact Nat.mul_pos (by omega) (Nat.mul_pos (by omega) (by omega))
  obtain ⟨k, hk⟩ := List.length_pos_iff_exists_mem.1 hn0
  exact ⟨k, hk, by rw [hmv]; exact (nodes_mem hd hb hk).2⟩
theorem hold_zeros (a b c : Int) (n m : Nat) (x : Plc) : holdV a b c (List.replicate n 0) (List.replicate m 0) x = true := by
  unfold holdV
  simp [bitAt_0]
theorem hold_all {a b c : Int} {xs ys : List Int} (hb : ∀ j : Nat, bitAt xs j = decide ((j : Int) < manyV a b c)) {x : Plc} (h : x.ok a b c) : holdV a b c xs ys x = false := by
  obtain ⟨k, h1, h2, h3⟩ := nodes_some h
  unfold holdV
  rw [Bool.and_eq_false_iff]
  refine .inl (Bool.eq_false_iff.2 fun hh => ?_)
  have := List.all_eq_true.1 hh k h1
  rw [hb, decide_eq_true (by omega)] at this
  cases this
theorem zeros_inU (n : Nat) : ∀ w ∈ List.replicate n (0 : Int), inU w := fun w hw => by rw [List.eq_of_mem_replicate hw]; exact inU_0
theorem schk_zeros {n : Int} (hn : 1 ≤ n ∧ n ≤ 12288) {k : Nat} (hk : (k : Int) = (n + 63) / 64) : schk n (List.replicate k 0) = 0 :=
  (schk_bits (zeros_inU k)).2 ⟨hn, by rw [List.length_replicate]; exact hk, fun m _ => bitAt_0 k m⟩
theorem allS {a b c : Int} (w : Wnt) {xs ys : List Int} (hx : ∀ w ∈ xs, inU w) (hy : ∀ w ∈ ys, inU w) (c1 : schk (manyV a b c) xs = 0) (c2 : schk (3 * manyV a b c) ys = 0) (h : dwchk a b c w.p w.q w.r = 0) :
    Pur Tryz.prog GG 14 [.agg [I a, I b, I c], w.av, .isl (xs.map U), .isl (ys.map U)] (.tup [rsl a b c w ((wholeL a b c w).filter (holdV a b c xs ys)), I 0]) := by
  have p1 := scheck_pur (manyV a b c) xs
  have p2 := scheck_pur (3 * manyV a b c) ys
  rw [c1] at p1
  rw [c2] at p2
  exact spotsA_ok w (.isl hx) (.isl hy) h p1 p2 fun x hk => holds_is hx hy c1 c2 x hk
end Go.Ab.Pd

set_option linter.unusedSimpArgs false
set_option linter.unusedVariables false
namespace Go.Ab.Pd
open Go.Proofs
theorem FW.walkD {P : Program} {G : Gl} (hm : P.follows .mixedOrders = true) {ops : Array Oper} {imp : Nat → Bool} {A : Nat → Bool} {ex : Nat → List Nat} (hA : ∀ a, A a = true → a < ops.size) (hD : delayB ops A ex = true) {l : List (Nat × Bool)} (hB : ordGB (dl A ex ops) imp l = true) (hq : qtB (dl A ex ops) l = true)
    {rd : Option Nat} {n id : Nat} {k : List Item} {Q : Lv → (Nat → AV) → List AO → Prop} {ts : Nat → AV} {H : List AO}
    (h : symG P G Tab.nil (dl A ex ops) (wt (dl A ex ops)) imp (fun _ ts H => FW P G rd n k ts H Q) true l Go.Ab.WT ts H) : FW P G rd n (.code (.region id ops true) :: k) ts H Q :=
  FW.drawD hm hA hD hB (symG_runG (fun _ _ h => h) l _ _ _ hq h)
def A7 : Nat → Bool := fun i => i == 3 || i == 5
def ex7 : Nat → List Nat := fun i => if i = 5 then [3] else []
def imp7 : Nat → Bool := fun i => i == 6
def ord7 : List (Nat × Bool) := [(0, true), (1, true), (2, true), (4, true), (3, false), (5, false), (6, false), (7, true), (8, true), (9, true), (10, true), (11, true)]
def imp14 : Nat → Bool := fun i => i == 5
def ord14 : List (Nat × Bool) := [(0, true), (1, true), (2, true), (3, true), (4, false), (5, false), (6, true), (7, true), (8, true), (9, true), (10, true)]
theorem pur_rep (k : Nat) : AV.purL (List.replicate (k + 1) (U 0)) = true := by rw [← List.map_replicate]; exact purL_U _
theorem own_rep {H : List AO} {id k : Nat} (h : H[id]? = some (.arr 1 (List.replicate (k + 1) (U 0)))) : Own H (.sl id 0 (k + 1) (k + 1)) (List.replicate (k + 1) (U 0)) := by
  have := Own.row h (by simp)
  rwa [List.length_replicate] at this
theorem own_ws {H : List AO} {id k : Nat} {ws : List Int} (hl : ws.length = k + 1) (h : H[id]? = some (.arr 1 (ws.map U))) : Own H (.sl id 0 (k + 1) (k + 1)) (ws.map U) := by
  have := Own.row h (by rw [List.length_map]; omega)
  rwa [List.length_map, hl] at this
theorem ok4 : codeOk 134 (Tryz.f4.body.getD .skip) = true := by kernel_rfl
theorem ro4 : resOk 134 Tryz.f4.results = true := by kernel_rfl
theorem dr4 : todoDr [7,14] [.code (Tryz.f4.body.getD .skip)] = true := by kernel_rfl
set_option maxHeartbeats 16000000 in
set_option maxRecDepth 400000 in
theorem many_law (hal : Pur Tryz.prog GG 12 [] (B true)) (a b c : Int) (w : Wnt) :
    Pur Tryz.prog GG 4 [.agg [I a, I b, I c], w.av] (B true) := by
  have hsm := small_pur a b c
  have hM := spotsMany_pur a b c w
  show Pur Tryz.prog GG 4 [.agg [I a, I b, I c], WT w.p w.q w.r w.s w.t w.u w.v] _
  by_cases he : dwchk a b c w.p w.q w.r = 0
  · rw [he, if_pos rfl] at hM
    obtain ⟨hd, hw⟩ := dwchk_ok.1 he
    cases g3 : smallV a b c
    · rw [g3] at hsm
      refine Pur.of_alone ggp (by simp [AV.purL, AV.pur]) (AC.of_body (c := (Tryz.f4.body.getD .skip)) Tryz.func4 rfl (by decide) ok4 ro4 (by exact (by decide : 2 ≤ 134)) ?_)
      refine walk hmix TOk.nil [7,14] 3000 0 dr4 ?_
      delta Tryz.f4
      simp only [Option.getD_some]
      simp (maxSteps := 2000000) only [resA, resL, resVar, Option.some.injEq, kw0, List.size_toArray, List.length_cons, List.length_nil, Nat.zero_add, Nat.reduceAdd, List.range_succ, List.range_zero, List.nil_append, List.cons_append, List.getElem?_toArray, List.getElem?_cons_zero, Go.Ab.put, ↓opK_some, ↓guK_none, kw1, roOf, aop, ev, argTs, List.getD_cons_zero, AV.isEl.eq_2, ↓reduceIte, AV.cells.eq_1, ↓roK_ok, List.getElem?_cons_succ, upd, Nat.reduceEqDiff, List.getD_cons_succ, ofV, tcall, Tab.nil, List.map_nil, ↓roK_call, true_and]
      refine AC.pur hal ?_
      refine walk hmix TOk.nil [7,14] 3000 0 (by kernel_rfl) ?_
      simp (maxSteps := 2000000) only [kw0, List.getElem?_toArray, List.getElem?_cons_succ, List.getElem?_cons_zero, Go.Ab.put, ↓opK_some, ↓guK_none, kw1, roOf, aop, ev, upd, ↓reduceIte, ↓roK_ok, List.size_toArray, List.length_cons, List.length_nil, Nat.zero_add, Nat.reduceAdd, List.range_succ, List.range_zero, List.nil_append, List.cons_append, aload, ty0, rdCells, Nat.reduceEqDiff, Nat.le_refl, List.drop_zero, List.take_succ_cons, List.take_nil, Option.map_some, tcall, Tab.nil, List.map_cons, List.map_nil, ↓roK_call, true_and]
      refine AC.pur hM ?_
      refine walk hmix TOk.nil [7,14] 3000 0 (by kernel_rfl) ?_
      simp (maxSteps := 2000000) only [kw0, List.getElem?_toArray, List.getElem?_cons_succ, List.getElem?_cons_zero, Go.Ab.put, ↓opK_some, ↓guK_none, kw1, roOf, aop, ev, upd, ↓reduceIte, ↓roK_ok, Option.map_some, Nat.reduceEqDiff, List.size_toArray, List.length_cons, List.length_nil, Nat.zero_add, Nat.reduceAdd, List.range_succ, List.range_zero, List.nil_append, List.cons_append, aBin, ofV, aBinI, bne_eq_decide', ne_eq, not_true_eq_false, decide_false, ↓guK_some, Option.bind_some, ↓tmK_some, ↓gsK_false, beq_self_eq_true, aload, ty0, rdCells, Nat.le_refl, List.drop_zero, List.take_succ_cons, List.take_nil, tcall, Tab.nil, List.map_cons, List.map_nil, ↓roK_call, true_and]
      refine AC.pur hsm ?_
      refine walk hmix TOk.nil [7,14] 3000 0 (by kernel_rfl) ?_
      simp (maxSteps := 2000000) only [kw0, List.getElem?_toArray, List.getElem?_cons_succ, List.getElem?_cons_zero, Go.Ab.put, ↓opK_some, ↓guK_some, Option.bind_some, ↓tmK_some, kw1, upd, Nat.reduceEqDiff, ↓reduceIte, ↓gsK_false, beq_self_eq_true, roOf, aop, ev, Bool.not_false, ↓roK_ok, ↓guK_none, pickA, ofV, cond_false, ↓gsK_true, cond_true, ↓gdK_true, List.size_toArray, List.length_cons, List.length_nil, Nat.zero_add, Nat.reduceAdd, List.range_succ, List.range_zero, List.nil_append, List.cons_append, reduceCtorEq, or_true, true_and]
      exact ⟨_, rfl, done_pur rfl rfl⟩
    · rw [g3] at hsm
      have hmu := okD_mul hd
      have hmv : manyV a b c = a * b * c := by rw [manyV, if_pos hd]
      have w1 := wrapL (n := a * b) (by omega) (by omega)
      have w2 := wrapL (n := a * b * c) (by omega) (by omega)
      have hsmall : a * b * c ≤ 64 := by
        rw [smallV, if_pos hd, w1, w2] at g3
        exact of_decide_eq_true g3
      have hN1 : 1 ≤ a * b * c := by
        have hd' := hd
        unfold okD at hd'
        have : 0 < a * b * c := Int.mul_pos (Int.mul_pos (by omega) (by omega)) (by omega)
        omega
      have h3 : 3 * a * b * c = 3 * (a * b * c) := by rw [Int.mul_assoc 3 a b, Int.mul_assoc]
      have h3' : 3 * a * b = 3 * (a * b) := Int.mul_assoc 3 a b
      have ha : 0 ≤ a ∧ a ≤ 16 := by unfold okD at hd; omega
      have w3 := wrapL (n := 3 * a) (by omega) (by omega)
      have w4 := wrapL (n := 3 * a * b) (by omega) (by omega)
      have w5 := wrapL (n := 3 * a * b * c) (by omega) (by omega)
      have w6 := wrapL (n := a * b * c + 63) (by omega) (by omega)
      have w7 := wrapL (n := 3 * a * b * c + 63) (by omega) (by omega)
      obtain ⟨q1, hq1, hq1'⟩ : ∃ q : Nat, (a * b * c + 63).tdiv 64 = ((q + 1 : Nat) : Int) ∧ ((q + 1 : Nat) : Int) = (a * b * c + 63) / 64 :=
        ⟨((a * b * c + 63) / 64).toNat - 1, by rw [Int.tdiv_eq_ediv_of_nonneg (by omega)]; omega, by omega⟩
      obtain ⟨q2, hq2, hq2'⟩ : ∃ q : Nat, (3 * a * b * c + 63).tdiv 64 = ((q + 1 : Nat) : Int) ∧ ((q + 1 : Nat) : Int) = (3 * (a * b * c) + 63) / 64 :=
        ⟨((3 * a * b * c + 63) / 64).toNat - 1, by rw [Int.tdiv_eq_ediv_of_nonneg (by omega)]; omega, by omega⟩
      have wq1 := wrapL (n := ((q1 + 1 : Nat) : Int)) (by omega) (by omega)
      have wq2 := wrapL (n := ((q2 + 1 : Nat) : Int)) (by omega) (by omega)
      have z1 : schk (manyV a b c) (List.replicate (q1 + 1) 0) = 0 := schk_zeros (by omega) (by rw [hmv]; omega)
      have z2 : schk (3 * manyV a b c) (List.replicate (q2 + 1) 0) = 0 := schk_zeros (by omega) (by rw [hmv]; omega)
      have hA := allS w (zeros_inU (q1 + 1)) (zeros_inU (q2 + 1)) z1 z2 he
      have hF : (wholeL a b c w).filter (holdV a b c (List.replicate (q1 + 1) 0) (List.replicate (q2 + 1) 0)) = wholeL a b c w := List.filter_eq_self.2 fun x _ => hold_zeros a b c _ _ x
      have hr := rsl_is (a := a) (b := b) (c := c) (w := w) (holdV a b c (List.replicate (q1 + 1) 0) (List.replicate (q2 + 1) 0))
      rw [hF] at hA hr
      rw [List.map_replicate, List.map_replicate] at hA
      have hlen := hr.len un31
      rw [List.length_map] at hlen
      generalize rsl a b c w (wholeL a b c w) = r at hA hr hlen
      have hFit := fits_pur hd w hw
      rw [whole_fits hd hw, show decide (0 < (wholeL a b c w).length) = decide ((0 : Int) < ((wholeL a b c w).length : Int)) from decide_eq_decide.2 (by omega)] at hFit
      have hle := whole_le hd w
      have hnone : ∀ xs ys : List Int, (∀ j : Nat, bitAt xs j = decide ((j : Int) < manyV a b c)) → (wholeL a b c w).filter (holdV a b c xs ys) = [] := fun xs ys hb => List.filter_eq_nil_iff.2 fun x hx => by
        rw [hold_all hb (((wholeL_mem hd).1 hx).1)]
        decide
      have hA2 := fun xs (hx : ∀ w ∈ xs, inU w) (c1 : schk (manyV a b c) xs = 0) => allS w hx (zeros_inU (q2 + 1)) c1 z2 he
      have hr2 := fun xs => rsl_is (a := a) (b := b) (c := c) (w := w) (holdV a b c xs (List.replicate (q2 + 1) 0))
      refine Pur.of_alone ggp (by simp [AV.purL, AV.pur]) (AC.of_body (c := (Tryz.f4.body.getD .skip)) Tryz.func4 rfl (by decide) ok4 ro4 (by exact (by decide : 2 ≤ 134)) ?_)
      refine walk hmix TOk.nil [7,14] 3000 0 dr4 ?_
      delta Tryz.f4
      simp only [Option.getD_some]
      simp (maxSteps := 2000000) only [resA, resL, resVar, Option.some.injEq, kw0, List.size_toArray, List.length_cons, List.length_nil, Nat.zero_add, Nat.reduceAdd, List.range_succ, List.range_zero, List.nil_append, List.cons_append, List.getElem?_toArray, List.getElem?_cons_zero, Go.Ab.put, ↓opK_some, ↓guK_none, kw1, roOf, aop, ev, argTs, List.getD_cons_zero, AV.isEl.eq_2, ↓reduceIte, AV.cells.eq_1, ↓roK_ok, List.getElem?_cons_succ, upd, Nat.reduceEqDiff, List.getD_cons_succ, ofV, tcall, Tab.nil, List.map_nil, ↓roK_call, true_and]
      refine AC.pur hal ?_
      refine walk hmix TOk.nil [7,14] 3000 0 (by kernel_rfl) ?_
      simp (maxSteps := 2000000) only [kw0, List.getElem?_toArray, List.getElem?_cons_succ, List.getElem?_cons_zero, Go.Ab.put, ↓opK_some, ↓guK_none, kw1, roOf, aop, ev, upd, ↓reduceIte, ↓roK_ok, List.size_toArray, List.length_cons, List.length_nil, Nat.zero_add, Nat.reduceAdd, List.range_succ, List.range_zero, List.nil_append, List.cons_append, aload, ty0, rdCells, Nat.reduceEqDiff, Nat.le_refl, List.drop_zero, List.take_succ_cons, List.take_nil, Option.map_some, tcall, Tab.nil, List.map_cons, List.map_nil, ↓roK_call, true_and]
      refine AC.pur hM ?_
      refine walk hmix TOk.nil [7,14] 3000 0 (by kernel_rfl) ?_
      simp (maxSteps := 2000000) only [kw0, List.getElem?_toArray, List.getElem?_cons_succ, List.getElem?_cons_zero, Go.Ab.put, ↓opK_some, ↓guK_none, kw1, roOf, aop, ev, upd, ↓reduceIte, ↓roK_ok, Option.map_some, Nat.reduceEqDiff, List.size_toArray, List.length_cons, List.length_nil, Nat.zero_add, Nat.reduceAdd, List.range_succ, List.range_zero, List.nil_append, List.cons_append, aBin, ofV, aBinI, bne_eq_decide', ne_eq, not_true_eq_false, decide_false, ↓guK_some, Option.bind_some, ↓tmK_some, ↓gsK_false, beq_self_eq_true, aload, ty0, rdCells, Nat.le_refl, List.drop_zero, List.take_succ_cons, List.take_nil, tcall, Tab.nil, List.map_cons, List.map_nil, ↓roK_call, true_and]
      refine AC.pur hsm ?_
      refine walk hmix TOk.nil [7,14] 3000 0 (by kernel_rfl) ?_
      simp (maxSteps := 2000000) only [kw0, List.getElem?_toArray, List.getElem?_cons_succ, List.getElem?_cons_zero, Go.Ab.put, ↓opK_some, ↓guK_some, Option.bind_some, ↓tmK_some, kw1, upd, Nat.reduceEqDiff, ↓reduceIte, ↓gsK_false, beq_self_eq_true, roOf, aop, ev, Bool.not_true, ↓roK_ok, ↓guK_none, pickA, ofV, cond_false, ↓gdK_false, List.size_toArray, List.length_cons, List.length_nil, Nat.zero_add, Nat.reduceAdd, List.range_succ, List.range_zero, List.nil_append, List.cons_append, aInt, ty0, Int.reduceLE, Int.reduceLT, and_self, ptrAdd, Int.toNat_zero, Nat.reduceMul, Nat.add_zero, Option.map_some, aload, rdCells, Nat.reduceLeDiff, List.drop_zero, List.take_succ_cons, List.take_zero, Int.toNat_one, List.drop_succ_cons, aBin, aBinI, w1, Int.reduceToNat, Nat.le_refl, List.take_nil, w2, w6, ne_eq, Int.reduceEq, not_false_eq_true, hq1, wq1, w3, w4, w5, w7, hq2, wq2, List.contains_cons, Nat.reduceBEq, List.contains_nil, Bool.false_or, Bool.true_or, true_and]
      refine FW.walkD hmix (A := A7) (ex := ex7) (imp := imp7) (l := ord7) (fun a ha => by unfold A7 at ha; simp at ha; rcases ha with rfl | rfl <;> decide) (by kernel_rfl) (by kernel_rfl) (by kernel_rfl) ?_
      simp only [ord7]
      simp (maxSteps := 2000000) only [symG_t, dl_get, A7, Nat.reduceBEq, Bool.or_self, List.getElem?_toArray, List.getElem?_cons_zero, Option.map_some, Go.Ab.put, ↓opJ_some, ↓guK_none, kw1, roOf, aop, aload, ty0, rdCells, ev, upd, Nat.reduceEqDiff, ↓reduceIte, Nat.zero_add, List.length_cons, List.length_nil, Nat.reduceAdd, Nat.le_refl, List.drop_zero, List.take_succ_cons, List.take_nil, ↓roK_ok, List.getElem?_cons_succ, symG_f, beq_self_eq_true, Bool.or_false, dlO, ex7, List.map_nil, List.append_nil, imp7, Bool.false_eq_true, wAdd_ap, WT_ap, wat, clOf, reduceCtorEq, true_and, implies_true, and_true, false_implies, Bool.or_true, List.map_cons, List.cons_append, List.nil_append, forall_const, tcall, Tab.nil, ↓roK_call, ty1, aInt, Int.reducePow, slv, ty2, Int.cast_ofNat_Int, Int.toNat_natCast, AV.cells.eq_2]
      refine ⟨by omega, by omega, ?_⟩
      refine Own.freeze (f := 14) (pre := [.agg [I a, I b, I c], WT w.p w.q w.r w.s w.t w.u w.v]) (post := [.sl 3 0 (q2 + 1) (q2 + 1)]) (s := .sl 2 0 (q1 + 1) (q1 + 1)) (es := List.replicate (q1 + 1) (U 0)) ?_ (pur_rep _) ?_
      · exact own_rep rfl
      intro H1 h1
      rw [frS_ne (by simp)]
      refine Own.freeze (f := 14) (pre := [.agg [I a, I b, I c], WT w.p w.q w.r w.s w.t w.u w.v, .isl (List.replicate (q1 + 1) (U 0))]) (post := []) (s := .sl 3 0 (q2 + 1) (q2 + 1)) (es := List.replicate (q2 + 1) (U 0)) (own_rep ((h1 3 (by simp [ownId])).trans rfl)) (pur_rep _) ?_
      intro H2 h2
      rw [frS_ne (by simp)]
      refine AC.pur hA ?_
      have m0 : H2[0]? = some (.cells [I a, I b, I c]) := (h2 0 (by simp [ownId])).trans ((h1 0 (by simp [ownId])).trans rfl)
      have m1 : H2[1]? = some (.cells [I w.p, I w.q, I w.r, B w.s, B w.t, B w.u, B w.v]) := (h2 1 (by simp [ownId])).trans ((h1 1 (by simp [ownId])).trans rfl)
      clear h1 h2
      have hL := lt_of_get m1
      simp (maxSteps := 2000000) only [m0, List.length_cons, List.length_nil, Nat.zero_add, Nat.reduceAdd, Nat.le_refl, ↓reduceIte, List.take, Option.map_some, implies_true, m1, and_self, List.getElem?_cons_zero, ↓roK_ok, symG_t, dl_get, A7, Nat.reduceBEq, Bool.or_self, List.getElem?_toArray, List.getElem?_cons_succ, Go.Ab.put, ↓opJ_some, ↓guK_none, kw1, roOf, aop, ev, upd, Nat.reduceEqDiff, symG_nil, true_and]
      refine walk hmix TOk.nil [7,14] 3000 0 (by kernel_rfl) ?_
      simp (maxSteps := 2000000) only [kw0, List.size_toArray, List.length_cons, List.length_nil, Nat.zero_add, Nat.reduceAdd, List.range_succ, List.range_zero, List.nil_append, List.cons_append, List.getElem?_toArray, List.getElem?_cons_zero, Go.Ab.put, ↓opK_some, ↓guK_none, kw1, roOf, aop, aload, ty0, rdCells, ev, upd, Nat.reduceEqDiff, ↓reduceIte, m0, Nat.le_refl, List.drop_zero, List.take_succ_cons, List.take, Option.map_some, ↓roK_ok, List.getElem?_cons_succ, m1, tcall, Tab.nil, List.map_cons, List.map_nil, ↓roK_call, true_and]
      refine AC.pur hFit ?_
      have mm0 : ∀ l, (H2 ++ l)[0]? = some (.cells [I a, I b, I c]) := fun l => (List.getElem?_append_left (by omega)).trans m0
      have mm1 : ∀ l, (H2 ++ l)[1]? = some (.cells [I w.p, I w.q, I w.r, B w.s, B w.t, B w.u, B w.v]) := fun l => (List.getElem?_append_left (by omega)).trans m1
      refine walk hmix TOk.nil [7,14] 3000 0 (by kernel_rfl) ?_
      simp (maxSteps := 2000000) only [kw0, List.getElem?_toArray, List.getElem?_cons_succ, List.getElem?_cons_zero, Go.Ab.put, ↓opK_some, ↓guK_none, kw1, roOf, aop, ev, upd, ↓reduceIte, ↓roK_ok, Option.map_some, Nat.reduceEqDiff, List.size_toArray, List.length_cons, List.length_nil, Nat.zero_add, Nat.reduceAdd, List.range_succ, List.range_zero, List.nil_append, List.cons_append, ty1, aInt, ty2, Int.cast_ofNat_Int, Int.reducePow, true_and, slv, Int.toNat_natCast, AV.cells.eq_2, ofV]
      refine ⟨by omega, ?_⟩
      generalize hL0 : H2.length = L at hL
      refine FW.loopInv (fun m ts H => ∃ (k : Nat) (ws : List Int), (k : Int) + m = a * b * c ∧ (∀ x ∈ ws, inU x) ∧ ws.length = q1 + 1 ∧ (∀ j : Nat, bitAt ws j = decide (j < k)) ∧ H[0]? = some (.cells [I a, I b, I c]) ∧ H[1]? = some (.cells [I w.p, I w.q, I w.r, B w.s, B w.t, B w.u, B w.v]) ∧ H[L]? = some (.arr 1 (ws.map U)) ∧
          ts 2 = .ptr 0 0 ∧ ts 3 = .ptr 1 0 ∧ ts 6 = I ((wholeL a b c w).length : Int) ∧ ts 9 = I ((q2 + 1 : Nat) : Int) ∧ ts 10 = r ∧ ts 11 = I 0 ∧ ts 12 = B (decide ((0 : Int) < ((wholeL a b c w).length : Int))) ∧ ts 13 = I 0 ∧ ts 14 = .sl L 0 (q1 + 1) (q1 + 1) ∧ ts 15 = I (k : Int)) (a * b * c).toNat
        ⟨0, List.replicate (q1 + 1) 0, by omega, zeros_inU _, by simp, fun j => by rw [bitAt_0]; simp, mm0 _, mm1 _, by rw [← hL0, getA0, List.map_replicate]; rfl, rfl, rfl, rfl, rfl, rfl, rfl, rfl, rfl, rfl, rfl⟩ ?_
      clear m0 m1 mm0 mm1 hL0
      rintro m ih ts H ⟨k, ws, hk, hwu, hwl, hwb, m0, m1, mL, t2, t3, t6, t9, t10, t11, t12, t13, t14, t15⟩
      refine FW.inLoop ?_
      by_cases hlt : (k : Int) < a * b * c
      · have hd1 : decide ((k : Int) < a * b * c) = true := decide_eq_true hlt
        have hq0 : (k : Int).tdiv 64 = (k : Int) / 64 := Int.tdiv_eq_ediv_of_nonneg (by omega)
        have hkw := wrapL (n := (k : Int).tdiv 64) (by omega) (by omega)
        have hkq : ((k : Int).tdiv 64).toNat < ws.length := by omega
        have hkq' : ((k : Int).tdiv 64).toNat < (ws.map U).length := by rw [List.length_map]; exact hkq
        have hgd := getD_map U ws 0 hkq
        have hkm := Int.tmod_nonneg 64 (show (0 : Int) ≤ (k : Int) by omega)
        have hkd := Int.tdiv_nonneg (b := 64) (show (0 : Int) ≤ (k : Int) by omega) (by decide)
        have hie := wrapL (n := (k : Int) + 1) (by omega) (by omega)
        have hset : (ws.map U).set ((k : Int).tdiv 64).toNat (.c (.int .u64 (orW (ws.getD ((k : Int).tdiv 64).toNat 0) k))) = (setW ws k).map U := by rw [setW, List.map_set]
        have hbit := setW_bit hwu (k := (k : Int)) (by omega) (by rw [Int.toNat_natCast]; omega)
        have hin := setW_inU hwu (k : Int)
        refine walk hmix TOk.nil [7,14] 3000 0 (by kernel_rfl) ?_
        simp (maxSteps := 2000000) only [kw0, List.size_toArray, List.length_cons, List.length_nil, Nat.zero_add, Nat.reduceAdd, List.range_succ, List.range_zero, List.nil_append, List.cons_append, List.getElem?_toArray, List.getElem?_cons_zero, Go.Ab.put, ↓opK_some, ↓guK_none, kw1, roOf, aop, ev, t15, ↓roK_ok, List.getElem?_cons_succ, aInt, ofV, upd, Nat.reduceEqDiff, ↓reduceIte, t2, ty0, Int.reduceLE, Int.reduceLT, and_self, ptrAdd, Int.toNat_zero, Nat.reduceMul, Nat.add_zero, Option.map_some, aload, rdCells, m0, Nat.reduceLeDiff, List.drop_zero, List.take_succ_cons, List.take, Int.toNat_one, List.drop_succ_cons, aBin, aBinI, w1, Int.reduceToNat, Nat.le_refl, w2, hd1, ↓gdK_true, List.contains_cons, Nat.reduceBEq, List.contains_nil, Bool.or_self, t14, ne_eq, Int.reduceEq, not_false_eq_true, hkw, ty1, mL, ty2, hkq', hgd, AV.cells.eq_2, astore, AV.isEl.eq_2, wrCells, reEl, splice, List.drop_nil, List.append_nil, List.getD_cons_zero, symR_nil, hie, true_and]
        repeat (refine ⟨by omega, ?_⟩)
        exact ih (m - 1) (by omega) _ _ ⟨k + 1, setW ws k, by omega, hin, by rw [setW_length, hwl], fun j => by
            rw [hbit, hwb, Bool.eq_iff_iff]
            simp only [Bool.or_eq_true, decide_eq_true_eq]
            omega, (List.getElem?_set_ne (by omega : L ≠ 0)).trans m0, (List.getElem?_set_ne (by omega : L ≠ 1)).trans m1, (List.getElem?_set_self (lt_of_get mL)).trans (congrArg (fun q => some (AO.arr 1 q)) hset), t2, t3, t6, t9, t10, t11, t12, t13, t14, rfl⟩
      · have hd1 : decide ((k : Int) < a * b * c) = false := decide_eq_false hlt
        have hkN : (k : Int) = a * b * c := by omega
        have hwb' : ∀ j : Nat, bitAt ws j = decide ((j : Int) < manyV a b c) := fun j => by
          rw [hwb, hmv]
          exact decide_eq_decide.2 (by omega)
        have zs : schk (manyV a b c) ws = 0 := (schk_bits hwu).2 ⟨by omega, by rw [hmv]; omega, fun m hm => by rw [hwb']; exact decide_eq_false (by omega)⟩
        have hA3 := hA2 ws hwu zs
        have hr3 := hr2 ws
        rw [hnone _ _ hwb'] at hA3 hr3
        have hlen3 := hr3.len un31
        rw [List.map_replicate] at hA3
        generalize rsl a b c w [] = r3 at hA3 hr3 hlen3
        refine walk hmix TOk.nil [7,14] 3000 0 (by kernel_rfl) ?_
        simp (maxSteps := 2000000) only [kw0, List.size_toArray, List.length_cons, List.length_nil, Nat.zero_add, Nat.reduceAdd, List.range_succ, List.range_zero, List.nil_append, List.cons_append, List.getElem?_toArray, List.getElem?_cons_zero, Go.Ab.put, ↓opK_some, ↓guK_none, kw1, roOf, aop, ev, t15, ↓roK_ok, List.getElem?_cons_succ, aInt, ofV, upd, Nat.reduceEqDiff, ↓reduceIte, t2, ty0, Int.reduceLE, Int.reduceLT, and_self, ptrAdd, Int.toNat_zero, Nat.reduceMul, Nat.add_zero, Option.map_some, aload, rdCells, m0, Nat.reduceLeDiff, List.drop_zero, List.take_succ_cons, List.take, Int.toNat_one, List.drop_succ_cons, aBin, aBinI, w1, Int.reduceToNat, Nat.le_refl, w2, hd1, ↓gdK_false, exitTo, beq_self_eq_true, reduceCtorEq, or_false, ↓exK_some, List.contains_cons, Nat.reduceBEq, List.contains_nil, Bool.true_or, Bool.or_true, true_and]
        refine FW.walkG hmix (imp := imp14) (l := ord14) (by kernel_rfl) (by kernel_rfl) ?_
        simp only [ord14]
        have hm0 : ∀ l, (H ++ l)[0]? = some (.cells [I a, I b, I c]) := fun l => (List.getElem?_append_left (lt_of_get m0)).trans m0
        have hm1 : ∀ l, (H ++ l)[1]? = some (.cells [I w.p, I w.q, I w.r, B w.s, B w.t, B w.u, B w.v]) := fun l => (List.getElem?_append_left (lt_of_get m1)).trans m1
        simp (maxSteps := 2000000) only [symG_t, List.getElem?_toArray, List.getElem?_cons_zero, Go.Ab.put, ↓opJ_some, ↓guK_none, kw1, roOf, aop, aload, ty0, rdCells, ev, upd, Nat.reduceEqDiff, ↓reduceIte, t2, m0, Nat.zero_add, List.length_cons, List.length_nil, Nat.reduceAdd, Nat.le_refl, List.drop_zero, List.take_succ_cons, List.take, Option.map_some, ↓roK_ok, List.getElem?_cons_succ, t3, m1, t14, t9, symG_f, imp14, Nat.reduceBEq, Bool.false_eq_true, wAdd_ap, WT_ap, wat, clOf, reduceCtorEq, true_and, implies_true, and_true, false_implies, beq_self_eq_true, forall_const, tcall, Tab.nil, List.map_cons, List.map_nil, ↓roK_call, ty1, aInt, ty2, Int.cast_ofNat_Int, Int.reducePow, slv, Int.toNat_natCast, AV.cells.eq_2]
        refine ⟨by omega, ?_⟩
        have hmL : (H ++ [AO.arr 1 (List.replicate (q2 + 1) (U 0))])[L]? = some (.arr 1 (ws.map U)) := (List.getElem?_append_left (lt_of_get mL)).trans mL
        have hLn : L ≠ H.length := by have := lt_of_get mL; omega
        refine Own.freeze (f := 14) (pre := [.agg [I a, I b, I c], WT w.p w.q w.r w.s w.t w.u w.v]) (post := [.sl H.length 0 (q2 + 1) (q2 + 1)]) (s := .sl L 0 (q1 + 1) (q1 + 1)) (es := ws.map U) (own_ws hwl hmL) (purL_U _) ?_
        intro H3 h3
        rw [frS_ne (by rw [List.length_map]; omega)]
        refine Own.freeze (f := 14) (pre := [.agg [I a, I b, I c], WT w.p w.q w.r w.s w.t w.u w.v, .isl (ws.map U)]) (post := []) (s := .sl H.length 0 (q2 + 1) (q2 + 1)) (es := List.replicate (q2 + 1) (U 0)) (own_rep ((h3 H.length (by simp [ownId, hLn])).trans (by rw [getA0]; rfl))) (pur_rep _) ?_
        intro H4 h4
        rw [frS_ne (by simp)]
        refine AC.pur hA3 ?_
        have hl1 := lt_of_get m1
        have k0 : H4[0]? = some (.cells [I a, I b, I c]) := (h4 0 (fun e => by have : H.length = 0 := Option.some.inj e; omega)).trans ((h3 0 (fun e => by have : L = 0 := Option.some.inj e; omega)).trans (hm0 _))
        have k1 : H4[1]? = some (.cells [I w.p, I w.q, I w.r, B w.s, B w.t, B w.u, B w.v]) := (h4 1 (fun e => by have : H.length = 1 := Option.some.inj e; omega)).trans ((h3 1 (fun e => by have : L = 1 := Option.some.inj e; omega)).trans (hm1 _))
        simp (maxSteps := 2000000) only [k0, List.length_cons, List.length_nil, Nat.zero_add, Nat.reduceAdd, Nat.le_refl, ↓reduceIte, List.take, Option.map_some, implies_true, k1, and_self, List.getElem?_cons_zero, ↓roK_ok, symG_t, List.getElem?_toArray, List.getElem?_cons_succ, Go.Ab.put, ↓opJ_some, ↓guK_none, kw1, roOf, aop, ev, upd, Nat.reduceEqDiff, symG_nil, true_and]
        refine walk hmix TOk.nil [7,14] 3000 0 (by kernel_rfl) ?_
        simp (maxSteps := 2000000) only [kw0, List.size_toArray, List.length_cons, List.length_nil, Nat.zero_add, Nat.reduceAdd, List.range_succ, List.range_zero, List.nil_append, List.cons_append, List.getElem?_toArray, List.getElem?_cons_zero, Go.Ab.put, ↓opK_some, ↓guK_none, kw1, roOf, aop, ev, upd, Nat.reduceEqDiff, ↓reduceIte, t11, ↓roK_ok, List.getElem?_cons_succ, aBin, ofV, aBinI, beq_self_eq_true, Option.map_some, ↓guK_some, Option.bind_some, ↓tmK_some, ↓gsK_true, t13, pickA, cond_true, t10, hlen, t6, t12, ty0, hlen3, List.map_nil, Int.cast_ofNat_Int, reduceCtorEq, or_true, true_and]
        exact ⟨_, rfl, done_pur rfl rfl⟩
  · rw [if_neg he] at hM
    refine Pur.of_alone ggp (by simp [AV.purL, AV.pur]) (AC.of_body (c := (Tryz.f4.body.getD .skip)) Tryz.func4 rfl (by decide) ok4 ro4 (by exact (by decide : 2 ≤ 134)) ?_)
    refine walk hmix TOk.nil [7,14] 3000 0 dr4 ?_
    delta Tryz.f4
    simp only [Option.getD_some]
    simp (maxSteps := 2000000) only [resA, resL, resVar, Option.some.injEq, kw0, List.size_toArray, List.length_cons, List.length_nil, Nat.zero_add, Nat.reduceAdd, List.range_succ, List.range_zero, List.nil_append, List.cons_append, List.getElem?_toArray, List.getElem?_cons_zero, Go.Ab.put, ↓opK_some, ↓guK_none, kw1, roOf, aop, ev, argTs, List.getD_cons_zero, AV.isEl.eq_2, ↓reduceIte, AV.cells.eq_1, ↓roK_ok, List.getElem?_cons_succ, upd, Nat.reduceEqDiff, List.getD_cons_succ, ofV, tcall, Tab.nil, List.map_nil, ↓roK_call, true_and]
    refine AC.pur hal ?_
    refine walk hmix TOk.nil [7,14] 3000 0 (by kernel_rfl) ?_
    simp (maxSteps := 2000000) only [kw0, List.getElem?_toArray, List.getElem?_cons_succ, List.getElem?_cons_zero, Go.Ab.put, ↓opK_some, ↓guK_none, kw1, roOf, aop, ev, upd, ↓reduceIte, ↓roK_ok, List.size_toArray, List.length_cons, List.length_nil, Nat.zero_add, Nat.reduceAdd, List.range_succ, List.range_zero, List.nil_append, List.cons_append, aload, ty0, rdCells, Nat.reduceEqDiff, Nat.le_refl, List.drop_zero, List.take_succ_cons, List.take_nil, Option.map_some, tcall, Tab.nil, List.map_cons, List.map_nil, ↓roK_call, true_and]
    refine AC.pur hM ?_
    refine walk hmix TOk.nil [7,14] 3000 0 (by kernel_rfl) ?_
    simp (maxSteps := 2000000) only [kw0, List.getElem?_toArray, List.getElem?_cons_succ, List.getElem?_cons_zero, Go.Ab.put, ↓opK_some, ↓guK_none, kw1, roOf, aop, ev, upd, ↓reduceIte, ↓roK_ok, Option.map_some, Nat.reduceEqDiff, List.size_toArray, List.length_cons, List.length_nil, Nat.zero_add, Nat.reduceAdd, List.range_succ, List.range_zero, List.nil_append, List.cons_append, aBin, ofV, aBinI, bne_eq_decide', ne_eq, he, not_false_eq_true, decide_true, ↓guK_some, Option.bind_some, ↓tmK_some, ↓gsK_true, pickA, cond_true, ↓gdK_true, reduceCtorEq, or_true, true_and]
    exact ⟨_, rfl, done_pur rfl rfl⟩
end Go.Ab.Pd
