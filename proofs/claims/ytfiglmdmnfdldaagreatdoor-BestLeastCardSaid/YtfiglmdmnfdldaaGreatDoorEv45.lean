/- One of the texts that this claim stands on. -/
import Derived.Test.YtfiglmdmnfdldaaGreatDoorEv44
import Derived.Test.YtfiglmdmnfdldaaGreatDoorEv40
import Derived.Test.YtfiglmdmnfdldaaGreatDoorEv43
set_option linter.unusedVariables false
set_option linter.unusedSimpArgs false
set_option linter.unusedSimpArgs false
set_option linter.unusedVariables false
namespace Go.Ab.Pd
open Go.Proofs
def holdV (a b c : Int) (xs ys : List Int) (x : Plc) : Bool := (nodesL a b c x.x x.y x.z x.p x.q x.r).all (fun k => !bitAt xs k.toNat) && (linksL a b c x.x x.y x.z x.p x.q x.r x.s x.t x.u).all (fun k => !bitAt ys k.toNat)
set_option maxHeartbeats 8000000 in
set_option maxRecDepth 400000 in
theorem holds_is {a b c : Int} {xs ys : List Int} (hx : ∀ w ∈ xs, inU w) (hy : ∀ w ∈ ys, inU w) (c1 : schk (manyV a b c) xs = 0) (c2 : schk (3 * manyV a b c) ys = 0) (P0 : Plc) (hk : P0.ok a b c) :
    Pur Tryz.prog GG 10 [.agg [I a, I b, I c], P0.av, .isl (xs.map U), .isl (ys.map U)] (.tup [B (holdV a b c xs ys P0), I 0]) := by
  obtain ⟨x, y, z, p, q, r, s, t, u⟩ := P0
  have hd := hk.1
  have hb := hk.2.1
  have hmu := okD_mul hd
  have hmv : manyV a b c = a * b * c := by rw [manyV, if_pos hd]
  have hn : 0 ≤ manyV a b c ∧ manyV a b c ≤ 4096 := by omega
  obtain ⟨hN1, lx, _⟩ := (schk_bits hx).1 c1
  obtain ⟨hN2, ly, _⟩ := (schk_bits hy).1 c2
  have wv1 : wordsV (manyV a b c) = (manyV a b c + 63) / 64 := by rw [wordsV, if_pos (by omega)]
  have wv2 : wordsV (3 * manyV a b c) = (3 * manyV a b c + 63) / 64 := by rw [wordsV, if_pos (by omega)]
  have q1 : IsSet (.isl (xs.map U)) := .isl hx
  have q2 : IsSet (.isl (ys.map U)) := .isl hy
  have p1 := scheck_pur (manyV a b c) xs
  have p2 := scheck_pur (3 * manyV a b c) ys
  rw [c1] at p1
  rw [c2] at p2
  have hfs := fsets_pur q1 q2 hn p1 p2
  have hlo : ∀ k ∈ srt (nodesL a b c x y z p q r), 0 ≤ k ∧ k < manyV a b c := fun k hk => by rw [hmv]; exact (nodes_mem hd hb (srt_mem.1 hk)).2
  have hll : ∀ k ∈ linksL a b c x y z p q r s t u, 0 ≤ k ∧ k < 3 * manyV a b c := fun k hk => by rw [hmv]; exact links_mem hd hb k hk
  have io := ofL_inU (manyV a b c) (srt (nodesL a b c x y z p q r))
  have il := ofL_inU (3 * manyV a b c) (linksL a b c x y z p q r s t u)
  have lo := ofL_length (manyV a b c) (srt (nodesL a b c x y z p q r))
  have ll := ofL_length (3 * manyV a b c) (linksL a b c x y z p q r s t u)
  have so := schk_ofL hN1 hlo
  have sl := schk_ofL hN2 hll
  have co1 := scheck_pur (manyV a b c) (ofL (manyV a b c) (srt (nodesL a b c x y z p q r)))
  have co2 := scheck_pur (3 * manyV a b c) (ofL (3 * manyV a b c) (linksL a b c x y z p q r s t u))
  rw [so] at co1
  rw [sl] at co2
  have pa1 := and_ok (manyV a b c) io hx (by omega) (by omega) (by omega) co1 p1
  have pa2 := and_ok (3 * manyV a b c) il hy (by omega) (by omega) (by omega) co2 p2
  have cz1 := scheck_pur (manyV a b c) (List.zipWith andW (ofL (manyV a b c) (srt (nodesL a b c x y z p q r))) xs)
  have cz2 := scheck_pur (3 * manyV a b c) (List.zipWith andW (ofL (3 * manyV a b c) (linksL a b c x y z p q r s t u)) ys)
  rw [schk_and io hx so c1] at cz1
  rw [schk_and il hy sl c2] at cz2
  have pm1 := smany_ok (manyV a b c) (by rw [List.length_zipWith]; omega) cz1
  have pm2 := smany_ok (3 * manyV a b c) (by rw [List.length_zipWith]; omega) cz2
  obtain ⟨n1, m1⟩ := apart_bits hN1 hlo hx c1
  obtain ⟨n2, m2⟩ := apart_bits hN2 hll hy c2
  have w3 := wrapL (n := 3 * manyV a b c) (by omega) (by omega)
  have h1 := q1.pur
  have h2 := q2.pur
  obtain ⟨c11, c12, c13⟩ := q1.cell
  obtain ⟨c21, c22, c23⟩ := q2.cell
  rw [if_pos ⟨rfl, rfl⟩] at hfs
  have hV : holdV a b c xs ys ⟨x, y, z, p, q, r, s, t, u⟩ = decide (IntKind.i64.wrap (manyW (List.zipWith andW (ofL (manyV a b c) (srt (nodesL a b c x y z p q r))) xs) + manyW (List.zipWith andW (ofL (3 * manyV a b c) (linksL a b c x y z p q r s t u)) ys)) = 0) := by
    rw [wrapL (by omega) (by omega), Bool.eq_iff_iff, decide_eq_true_eq, holdV]
    simp only [Bool.and_eq_true, List.all_eq_true, Bool.not_eq_true']
    constructor
    · rintro ⟨k1, k2⟩
      rw [m1.2 fun k hk => k1 k (srt_mem.1 hk), m2.2 k2]; rfl
    · intro h0
      exact ⟨fun k hk => m1.1 (by omega) k (srt_mem.2 hk), m2.1 (by omega)⟩
  rw [hV]
  have hk' : okPl a b c x y z p q r s t u := hk
  show Pur Tryz.prog GG 10 [.agg [I a, I b, I c], PL x y z p q r s t u, .isl (xs.map U), .isl (ys.map U)] _
  generalize manyW (List.zipWith andW (ofL (manyV a b c) (srt (nodesL a b c x y z p q r))) xs) = M1 at pm1
  generalize manyW (List.zipWith andW (ofL (3 * manyV a b c) (linksL a b c x y z p q r s t u)) ys) = M2 at pm2
  refine Pur.of_alone ggp (by simp [AV.purL, AV.pur, h1, h2]) (AC.of_body (c := (Tryz.f10.body.getD .skip)) Tryz.func10 rfl (by decide) ok10 ro10 (by exact (by decide : 4 ≤ 68)) ?_)
  refine walk hmix T22_ok [] 3000 0 dr10 ?_
  delta Tryz.f10
  simp only [Option.getD_some]
  simp (maxSteps := 2000000) only [T22, T21, T20, T19, T18, T17, T16, T13, T12, T11, T10, T9, T8, T7, T6, T5, T4, T3, T2, T1, T0, resA, resL, resVar, Option.some.injEq, kw0, List.size_toArray, List.length_cons, List.length_nil, Nat.zero_add, Nat.reduceAdd, List.range_succ, List.range_zero, List.nil_append, List.cons_append, List.getElem?_toArray, List.getElem?_cons_zero, Go.Ab.put, ↓opK_some, ↓guK_none, kw1, roOf, aop, ev, argTs, List.getD_cons_zero, AV.isEl.eq_2, ↓reduceIte, AV.cells.eq_1, ↓roK_ok, List.getElem?_cons_succ, upd, Nat.reduceEqDiff, List.getD_cons_succ, ofV, aload, ty0, rdCells, Nat.le_refl, List.drop_zero, List.take_succ_cons, List.take_nil, Option.map_some, ty1, tcall, Tab.ext, g21, List.map_cons, List.map_nil, List.append_nil, hk', aBin, aBinI, bne_eq_decide', ne_eq, not_true_eq_false, decide_false, ↓gdK_false, g22, Tab.nil, ↓roK_call, true_and]
  refine AC.pur hfs ?_
  refine walk hmix T22_ok [] 3000 0 (by kernel_rfl) ?_
  simp (maxSteps := 2000000) only [T22, T21, T20, T19, T18, T17, T16, T13, T12, T11, T10, T9, T8, T7, T6, T5, T4, T3, T2, T1, T0, kw0, List.getElem?_toArray, List.getElem?_cons_succ, List.getElem?_cons_zero, Go.Ab.put, ↓opK_some, ↓guK_none, kw1, roOf, aop, ev, upd, ↓reduceIte, ↓roK_ok, List.size_toArray, List.length_cons, List.length_nil, Nat.zero_add, Nat.reduceAdd, List.range_succ, List.range_zero, List.nil_append, List.cons_append, aBin, ofV, aBinI, bne_eq_decide', ne_eq, not_true_eq_false, decide_false, Option.map_some, ↓gdK_false, Nat.reduceEqDiff, argTs, List.getD_cons_succ, List.getD_cons_zero, tcall, Tab.ext, Tab.nil, List.map_cons, List.map_nil, ↓roK_call, true_and]
  refine both_ac hn pa1 pa2 ?_
  refine walk hmix T22_ok [] 3000 0 (by kernel_rfl) ?_
  simp (maxSteps := 2000000) only [T22, T21, T20, T19, T18, T17, T16, T13, T12, T11, T10, T9, T8, T7, T6, T5, T4, T3, T2, T1, T0, kw0, List.getElem?_toArray, List.getElem?_cons_succ, List.getElem?_cons_zero, Go.Ab.put, ↓opK_some, ↓guK_none, kw1, roOf, aop, ev, upd, ↓reduceIte, ↓roK_ok, Option.map_some, Nat.reduceEqDiff, List.size_toArray, List.length_cons, List.length_nil, Nat.zero_add, Nat.reduceAdd, List.range_succ, List.range_zero, List.nil_append, List.cons_append, tcall, Tab.ext, Tab.nil, List.map_cons, List.map_nil, ↓roK_call, true_and]
  refine AC.pur pm1 ?_
  refine walk hmix T22_ok [] 3000 0 (by kernel_rfl) ?_
  simp (maxSteps := 2000000) only [T22, T21, T20, T19, T18, T17, T16, T13, T12, T11, T10, T9, T8, T7, T6, T5, T4, T3, T2, T1, T0, kw0, List.getElem?_toArray, List.getElem?_cons_succ, List.getElem?_cons_zero, Go.Ab.put, ↓opK_some, ↓guK_none, kw1, roOf, aop, ev, upd, ↓reduceIte, ↓roK_ok, Option.map_some, Nat.reduceEqDiff, List.size_toArray, List.length_cons, List.length_nil, Nat.zero_add, Nat.reduceAdd, List.range_succ, List.range_zero, List.nil_append, List.cons_append, aBin, ofV, aBinI, w3, tcall, Tab.ext, Tab.nil, List.map_cons, List.map_nil, ↓roK_call, true_and]
  refine AC.pur pm2 ?_
  refine walk hmix T22_ok [] 3000 0 (by kernel_rfl) ?_
  simp (maxSteps := 2000000) only [T22, T21, T20, T19, T18, T17, T16, T13, T12, T11, T10, T9, T8, T7, T6, T5, T4, T3, T2, T1, T0, kw0, List.getElem?_toArray, List.getElem?_cons_succ, List.getElem?_cons_zero, Go.Ab.put, ↓opK_some, ↓guK_none, kw1, roOf, aop, ev, upd, ↓reduceIte, ↓roK_ok, Option.map_some, Nat.reduceEqDiff, List.size_toArray, List.length_cons, List.length_nil, Nat.zero_add, Nat.reduceAdd, List.range_succ, List.range_zero, List.nil_append, List.cons_append, aBin, aBinI, ofV, beq_eq_decide', reduceCtorEq, or_true, true_and]
  exact ⟨_, rfl, done_pur rfl rfl⟩
end Go.Ab.Pd

set_option linter.unusedSimpArgs false
set_option linter.unusedVariables false
namespace Go.Ab.Pd
open Go.Proofs
theorem allS {a b c : Int} (w : Wnt) {xs ys : List Int} (hx : ∀ w ∈ xs, inU w) (hy : ∀ w ∈ ys, inU w) (c1 : schk (manyV a b c) xs = 0) (c2 : schk (3 * manyV a b c) ys = 0) (h : dwchk a b c w.p w.q w.r = 0) :
    Pur Tryz.prog GG 12 [.agg [I a, I b, I c], w.av, .isl (xs.map U), .isl (ys.map U)] (.tup [rsl a b c w ((wholeL a b c w).filter (holdV a b c xs ys)), I 0]) := by
  have p1 := scheck_pur (manyV a b c) xs
  have p2 := scheck_pur (3 * manyV a b c) ys
  rw [c1] at p1
  rw [c2] at p2
  exact spotsA_ok w (.isl hx) (.isl hy) h p1 p2 fun x hk => holds_is hx hy c1 c2 x hk
end Go.Ab.Pd

set_option linter.unusedSimpArgs false
set_option linter.unusedVariables false
namespace Go.Ab.Pd
open Go.Proofs
abbrev PLz : AV := PL 0 0 0 0 0 0 false false false
theorem ok8 : codeOk 35 (Tryz.f8.body.getD .skip) = true := by kernel_rfl
theorem ro8 : resOk 35 Tryz.f8.results = true := by kernel_rfl
theorem dr8 : todoDr [] [.code (Tryz.f8.body.getD .skip)] = true := by kernel_rfl
set_option maxHeartbeats 8000000 in
set_option maxRecDepth 400000 in
theorem best_err {a b c e : Int} {w : Wnt} {s1 s2 : AV} (q1 : IsSet s1) (q2 : IsSet s2) (he : ¬e = 0) (hA : Pur Tryz.prog GG 12 [.agg [I a, I b, I c], w.av, s1, s2] (.tup [.c (.slice none 0 0), I e])) :
    Pur Tryz.prog GG 8 [.agg [I a, I b, I c], w.av, s1, s2] (.tup [PLz, I e]) := by
  have h1 := q1.pur
  have h2 := q2.pur
  obtain ⟨k11, k12, k13⟩ := q1.cell
  obtain ⟨k21, k22, k23⟩ := q2.cell
  show Pur Tryz.prog GG 8 [.agg [I a, I b, I c], WT w.p w.q w.r w.s w.t w.u w.v, s1, s2] _
  refine Pur.of_alone ggp (by simp [AV.purL, AV.pur, h1, h2]) (AC.of_body (c := (Tryz.f8.body.getD .skip)) Tryz.func8 rfl (by decide) ok8 ro8 (by exact (by decide : 4 ≤ 35)) ?_)
  refine walk hmix TOk.nil [] 3000 0 dr8 ?_
  delta Tryz.f8
  simp only [Option.getD_some]
  simp (maxSteps := 2000000) only [resA, resL, resVar, aload, ty1, rdCells, kw0, List.size_toArray, List.length_cons, List.length_nil, Nat.zero_add, Nat.reduceAdd, List.range_succ, List.range_zero, List.nil_append, List.cons_append, List.getElem?_toArray, List.getElem?_cons_zero, Go.Ab.put, ↓opK_some, ↓guK_none, kw1, roOf, aop, ev, argTs, List.getD_cons_zero, AV.isEl.eq_2, ↓reduceIte, AV.cells.eq_1, ↓roK_ok, List.getElem?_cons_succ, upd, Nat.reduceEqDiff, List.getD_cons_succ, ofV, ty0, Nat.le_refl, List.drop_zero, List.take_succ_cons, List.take_nil, Option.map_some, tcall, Tab.nil, List.map_cons, List.map_nil, ↓roK_call, true_and]
  refine AC.pur hA ?_
  refine walk hmix TOk.nil [] 3000 0 (by kernel_rfl) ?_
  simp (maxSteps := 2000000) only [kw0, List.getElem?_toArray, List.getElem?_cons_succ, List.getElem?_cons_zero, Go.Ab.put, ↓opK_some, ↓guK_none, kw1, roOf, aop, ev, upd, ↓reduceIte, ↓roK_ok, Option.map_some, Nat.reduceEqDiff, List.size_toArray, List.length_cons, List.length_nil, Nat.zero_add, Nat.reduceAdd, List.range_succ, List.range_zero, List.nil_append, List.cons_append, aBin, ofV, aBinI, bne_eq_decide', ne_eq, he, not_false_eq_true, decide_true, ↓gdK_true, aBuild, ty1, argTs, List.map_nil, aFill, astore, AV.isEl.eq_2, AV.cells.eq_1, and_self, wrCells, Nat.le_refl, splice, List.take_zero, List.drop_succ_cons, List.drop_nil, List.append_nil, List.set_cons_succ, List.set_cons_zero, reduceCtorEq, or_true, List.drop_zero, List.take_succ_cons, List.take_nil, Option.some.injEq, true_and]
  exact ⟨_, rfl, done_pur rfl rfl⟩
set_option maxHeartbeats 8000000 in
set_option maxRecDepth 400000 in
theorem best_none {a b c : Int} {w : Wnt} {s1 s2 r : AV} (q1 : IsSet s1) (q2 : IsSet s2) (hA : Pur Tryz.prog GG 12 [.agg [I a, I b, I c], w.av, s1, s2] (.tup [r, I 0])) (hr : IsSl r ([] : List AV)) :
    Pur Tryz.prog GG 8 [.agg [I a, I b, I c], w.av, s1, s2] (.tup [PLz, I 6]) := by
  have h1 := q1.pur
  have h2 := q2.pur
  have hlen := hr.len un43
  rw [List.length_nil] at hlen
  show Pur Tryz.prog GG 8 [.agg [I a, I b, I c], WT w.p w.q w.r w.s w.t w.u w.v, s1, s2] _
  refine Pur.of_alone ggp (by simp [AV.purL, AV.pur, h1, h2]) (AC.of_body (c := (Tryz.f8.body.getD .skip)) Tryz.func8 rfl (by decide) ok8 ro8 (by exact (by decide : 4 ≤ 35)) ?_)
  refine walk hmix TOk.nil [] 3000 0 dr8 ?_
  delta Tryz.f8
  simp only [Option.getD_some]
  simp (maxSteps := 2000000) only [resA, resL, resVar, aload, ty1, rdCells, kw0, List.size_toArray, List.length_cons, List.length_nil, Nat.zero_add, Nat.reduceAdd, List.range_succ, List.range_zero, List.nil_append, List.cons_append, List.getElem?_toArray, List.getElem?_cons_zero, Go.Ab.put, ↓opK_some, ↓guK_none, kw1, roOf, aop, ev, argTs, List.getD_cons_zero, AV.isEl.eq_2, ↓reduceIte, AV.cells.eq_1, ↓roK_ok, List.getElem?_cons_succ, upd, Nat.reduceEqDiff, List.getD_cons_succ, ofV, ty0, Nat.le_refl, List.drop_zero, List.take_succ_cons, List.take_nil, Option.map_some, tcall, Tab.nil, List.map_cons, List.map_nil, ↓roK_call, true_and]
  refine AC.pur hA ?_
  refine walk hmix TOk.nil [] 3000 0 (by kernel_rfl) ?_
  simp (maxSteps := 2000000) only [kw0, List.getElem?_toArray, List.getElem?_cons_succ, List.getElem?_cons_zero, Go.Ab.put, ↓opK_some, ↓guK_none, kw1, roOf, aop, ev, upd, ↓reduceIte, ↓roK_ok, Option.map_some, Nat.reduceEqDiff, List.size_toArray, List.length_cons, List.length_nil, Nat.zero_add, Nat.reduceAdd, List.range_succ, List.range_zero, List.nil_append, List.cons_append, aBin, ofV, aBinI, bne_eq_decide', ne_eq, not_true_eq_false, decide_false, ↓gdK_false, hlen, Int.cast_ofNat_Int, beq_self_eq_true, ↓gdK_true, aBuild, ty1, argTs, List.map_nil, aFill, astore, AV.isEl.eq_2, AV.cells.eq_1, and_self, wrCells, Nat.le_refl, splice, List.take_zero, List.drop_succ_cons, List.drop_nil, List.append_nil, List.set_cons_succ, List.set_cons_zero, reduceCtorEq, or_true, List.drop_zero, List.take_succ_cons, List.take_nil, Option.some.injEq, true_and]
  exact ⟨_, rfl, done_pur rfl rfl⟩
set_option maxHeartbeats 8000000 in
set_option maxRecDepth 400000 in
theorem best_min {sc : Plc → Int} {a b c : Int} {w : Wnt} {s1 s2 : AV} {F : List Plc} (q1 : IsSet s1) (q2 : IsSet s2) (h0 : 0 < F.length) (hl : F.length ≤ 2 ^ 20) (hA : Pur Tryz.prog GG 12 [.agg [I a, I b, I c], w.av, s1, s2] (.tup [.isl (F.map Plc.av), I 0]))
    (hsc : ∀ x ∈ F, Pur Tryz.prog GG 15 [.agg [I a, I b, I c], x.av, s1] (.tup [I (sc x), I 0])) :
    Pur Tryz.prog GG 8 [.agg [I a, I b, I c], w.av, s1, s2] (.tup [(minL (ltS a b c sc) (F.getD 0 default) (F.drop 1)).av, I 0]) := by
  have h1 := q1.pur
  have h2 := q2.pur
  have hlen := (li43 (F.map Plc.av))
  have hn0 : ¬ (F.length : Int) = 0 := by omega
  show Pur Tryz.prog GG 8 [.agg [I a, I b, I c], WT w.p w.q w.r w.s w.t w.u w.v, s1, s2] _
  refine Pur.of_alone ggp (by simp [AV.purL, AV.pur, h1, h2]) (AC.of_body (c := (Tryz.f8.body.getD .skip)) Tryz.func8 rfl (by decide) ok8 ro8 (by exact (by decide : 4 ≤ 35)) ?_)
  refine walk hmix TOk.nil [] 3000 0 dr8 ?_
  delta Tryz.f8
  simp only [Option.getD_some]
  simp (maxSteps := 2000000) only [resA, resL, resVar, aload, ty1, rdCells, kw0, List.size_toArray, List.length_cons, List.length_nil, Nat.zero_add, Nat.reduceAdd, List.range_succ, List.range_zero, List.nil_append, List.cons_append, List.getElem?_toArray, List.getElem?_cons_zero, Go.Ab.put, ↓opK_some, ↓guK_none, kw1, roOf, aop, ev, argTs, List.getD_cons_zero, AV.isEl.eq_2, ↓reduceIte, AV.cells.eq_1, ↓roK_ok, List.getElem?_cons_succ, upd, Nat.reduceEqDiff, List.getD_cons_succ, ofV, ty0, Nat.le_refl, List.drop_zero, List.take_succ_cons, List.take_nil, Option.map_some, tcall, Tab.nil, List.map_cons, List.map_nil, ↓roK_call, true_and]
  refine AC.pur hA ?_
  refine walk hmix TOk.nil [] 3000 0 (by kernel_rfl) ?_
  simp (maxSteps := 2000000) only [kw0, List.getElem?_toArray, List.getElem?_cons_succ, List.getElem?_cons_zero, Go.Ab.put, ↓opK_some, ↓guK_none, kw1, roOf, aop, ev, upd, ↓reduceIte, ↓roK_ok, Option.map_some, Nat.reduceEqDiff, List.size_toArray, List.length_cons, List.length_nil, Nat.zero_add, Nat.reduceAdd, List.range_succ, List.range_zero, List.nil_append, List.cons_append, aBin, ofV, aBinI, bne_eq_decide', ne_eq, not_true_eq_false, decide_false, ↓gdK_false, hlen, List.length_map, beq_eq_decide', hn0, aload, ty0, rdCells, Nat.le_refl, List.drop_zero, List.take_succ_cons, List.take_nil, argTs, List.getD_cons_succ, List.getD_cons_zero, tcall, Tab.nil, List.map_cons, List.map_nil, ↓roK_call, true_and]
  refine compare_ac q1.cell ?_
  refine walk hmix TOk.nil [] 3000 0 (by kernel_rfl) ?_
  simp (maxSteps := 2000000) only [List.length_cons, List.length_nil, Nat.zero_add, Nat.reduceAdd, List.cons_append, List.nil_append, kw0, List.getElem?_toArray, List.getElem?_cons_succ, List.getElem?_cons_zero, Go.Ab.put, ↓opK_some, ↓guK_none, kw1, roOf, tcall, ev, Tab.nil, List.map_cons, upd, Nat.reduceEqDiff, ↓reduceIte, List.map_nil, ↓roK_call]
  refine min_ac q1.cell h0 hl (D := 3) (F := 7) (M := 6) (S := 4) (mi := 5) rfl rfl rfl rfl ⟨[], 0, rfl, fun e he => by simp at he⟩ hsc ?_
  intro H' hh
  have m2 := hh 2 _ (by decide) rfl
  have hcy := Plc.cells (minL (ltS a b c sc) (F.getD 0 default) (F.drop 1))
  generalize minL (ltS a b c sc) (F.getD 0 default) (F.drop 1) = y at hcy
  show FW _ _ _ _ _ (upd _ 34 (PL y.x y.y y.z y.p y.q y.r y.s y.t y.u)) _ _
  have gs : ∀ X, (H'.set 2 X)[2]? = some X := fun X => List.getElem?_set_self (lt_of_get m2)
  refine walk hmix TOk.nil [] 3000 0 (by kernel_rfl) ?_
  simp (maxSteps := 2000000) only [kw0, List.getElem?_toArray, List.getElem?_cons_succ, List.getElem?_cons_zero, Go.Ab.put, ↓opK_some, ↓guK_none, kw1, roOf, aop, astore, ev, upd, ↓reduceIte, AV.isEl.eq_2, ty1, AV.cells.eq_1, List.length_cons, List.length_nil, Nat.zero_add, Nat.reduceAdd, and_self, wrCells, Nat.reduceEqDiff, m2, Nat.le_refl, splice, List.take_zero, List.nil_append, List.drop_succ_cons, List.drop_nil, List.append_nil, Option.map_some, ↓roK_ok, ofV, reduceCtorEq, or_true, gs, List.drop_zero, List.take_succ_cons, List.take_nil, Option.some.injEq, true_and]
  exact ⟨_, rfl, done_pur rfl rfl⟩
end Go.Ab.Pd
