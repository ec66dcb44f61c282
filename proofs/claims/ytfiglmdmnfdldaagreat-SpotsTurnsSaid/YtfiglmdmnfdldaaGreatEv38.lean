/- One of the texts that this claim stands on. -/
import Derived.Test.YtfiglmdmnfdldaaGreatEv36
set_option linter.unusedVariables false
set_option linter.unusedSimpArgs false
set_option linter.unusedSimpArgs false
set_option linter.unusedVariables false
namespace Go.Ab.Pd
open Go.Proofs
def dd {α : Type} [DecidableEq α] : List α → List α
  | [] => []
  | x :: l => if x ∈ dd l then dd l else x :: dd l
theorem dd_mem {α : Type} [DecidableEq α] {x : α} : ∀ {l : List α}, x ∈ dd l ↔ x ∈ l
  | [] => Iff.rfl
  | y :: l => by
    unfold dd
    split
    · rename_i h
      rw [dd_mem, List.mem_cons]
      exact ⟨.inr, fun h' => h'.elim (fun e => e ▸ dd_mem.1 h) id⟩
    · rw [List.mem_cons, List.mem_cons, dd_mem]
theorem dd_nodup {α : Type} [DecidableEq α] : ∀ l : List α, (dd l).Nodup
  | [] => List.nodup_nil
  | y :: l => by
    unfold dd
    split
    · exact dd_nodup l
    · rename_i h
      exact List.nodup_cons.2 ⟨h, dd_nodup l⟩
def Wnt.rots (w : Wnt) : List Wnt := match w.v with
  | true => [w.rot 0, w.rot 1, w.rot 2, w.rot 3, w.rot 4, w.rot 5]
  | false => [w]
theorem Wnt.rots_mem {w t : Wnt} : t ∈ w.turns ↔ t ∈ w.rots := by
  unfold Wnt.turns Wnt.rots
  cases w.v
  · rw [if_neg (by decide)]
  · rw [if_pos rfl, Wnt.all_mem]
    simp only [List.mem_cons, List.not_mem_nil, or_false]
    constructor
    · rintro ⟨i, hi, rfl⟩
      have : i = 0 ∨ i = 1 ∨ i = 2 ∨ i = 3 ∨ i = 4 ∨ i = 5 := by omega
      rcases this with rfl | rfl | rfl | rfl | rfl | rfl <;> simp
    · rintro (rfl | rfl | rfl | rfl | rfl | rfl)
      · exact ⟨0, by decide, rfl⟩
      · exact ⟨1, by decide, rfl⟩
      · exact ⟨2, by decide, rfl⟩
      · exact ⟨3, by decide, rfl⟩
      · exact ⟨4, by decide, rfl⟩
      · exact ⟨5, by decide, rfl⟩
theorem whole_len (a b c : Int) (w : Wnt) : (wholeL a b c w).length = (dd (w.rots.flatMap (plL a b c))).length := by
  refine List.Perm.length_eq (List.perm_iff_count.2 fun x => ?_)
  rw [(whole_rises a b c w).nodup.count, (dd_nodup _).count]
  have h : x ∈ wholeL a b c w ↔ x ∈ dd (w.rots.flatMap (plL a b c)) := by
    rw [whole_mem, dd_mem, rawL, List.mem_flatMap, List.mem_flatMap]
    exact ⟨fun ⟨t, h1, h2⟩ => ⟨t, Wnt.rots_mem.1 h1, h2⟩, fun ⟨t, h1, h2⟩ => ⟨t, Wnt.rots_mem.2 h1, h2⟩⟩
  by_cases h1 : x ∈ wholeL a b c w
  · rw [if_pos h1, if_pos (h.1 h1)]
  · rw [if_neg h1, if_neg fun h2 => h1 (h.2 h2)]
theorem ok109 : codeOk 2 (Tryz.f109.body.getD .skip) = true := by kernel_rfl
theorem ro109 : resOk 2 Tryz.f109.results = true := by kernel_rfl
theorem dr109 : todoDr [] [.code (Tryz.f109.body.getD .skip)] = true := by kernel_rfl
set_option maxHeartbeats 4000000 in
set_option maxRecDepth 400000 in
theorem some_pur : Pur Tryz.prog GG 109 [] (.agg [I 3, I 2, I 1]) := by
  refine Pur.of_alone ggp (by simp [AV.purL, AV.pur]) (AC.of_body (c := (Tryz.f109.body.getD .skip)) Tryz.func109 rfl (by decide) ok109 ro109 (by exact (by decide : 0 ≤ 2)) ?_)
  refine walk hmix TOk.nil [] 3000 0 dr109 ?_
  delta Tryz.f109
  simp only [Option.getD_some]
  simp (maxSteps := 2000000) only [resA, resL, resVar, aload, ty0, rdCells, kw0, List.size_toArray, List.length_cons, List.length_nil, Nat.zero_add, List.range_succ, List.range_zero, List.nil_append, List.getElem?_toArray, List.getElem?_cons_zero, Go.Ab.put, ↓opK_some, ↓guK_none, kw1, roOf, aop, ↓roK_ok, Nat.reduceAdd, List.cons_append, aBuild, ev, upd, argTs, List.getD_nil, ofV, List.map_cons, List.map_nil, aFill, AV.isEl.eq_2, AV.cells.eq_2, Nat.reduceMul, Nat.reduceLeDiff, and_self, ↓reduceIte, splice, List.take_zero, List.drop_succ_cons, List.drop_zero, List.take_succ_cons, Nat.le_refl, List.drop_nil, List.append_nil, Option.map_some, List.getElem?_cons_succ, astore, AV.cells.eq_1, wrCells, reduceCtorEq, List.set_cons_zero, or_true, List.take_nil, Option.some.injEq, true_and]
  exact ⟨_, rfl, done_pur rfl rfl⟩
theorem ok42 : codeOk 15 (Tryz.f42.body.getD .skip) = true := by kernel_rfl
theorem ro42 : resOk 15 Tryz.f42.results = true := by kernel_rfl
theorem dr42 : todoDr [] [.code (Tryz.f42.body.getD .skip)] = true := by kernel_rfl
set_option maxHeartbeats 4000000 in
set_option maxRecDepth 400000 in
theorem shaped_pur (p q r : Int) (v : Bool) : Pur Tryz.prog GG 42 [I p, I q, I r, B v] (WT p q r false false false v) := by
  refine Pur.of_alone ggp (by simp [AV.purL, AV.pur]) (AC.of_body (c := (Tryz.f42.body.getD .skip)) Tryz.func42 rfl (by decide) ok42 ro42 (by exact (by decide : 4 ≤ 15)) ?_)
  refine walk hmix TOk.nil [] 3000 0 dr42 ?_
  delta Tryz.f42
  simp only [Option.getD_some]
  simp (maxSteps := 2000000) only [resA, resL, resVar, aload, ty0, rdCells, kw0, List.size_toArray, List.length_cons, List.length_nil, Nat.zero_add, List.range_succ, List.range_zero, List.nil_append, List.getElem?_toArray, List.getElem?_cons_zero, Go.Ab.put, ↓opK_some, ↓guK_none, kw1, roOf, aop, ↓roK_ok, Nat.reduceAdd, List.cons_append, ev, upd, reduceCtorEq, ↓reduceIte, argTs, List.getD_cons_zero, List.getElem?_cons_succ, Nat.reduceEqDiff, List.getD_cons_succ, aBuild, ofV, List.map_cons, List.map_nil, aFill, AV.isEl.eq_2, AV.cells.eq_2, Nat.reduceMul, Nat.reduceLeDiff, and_self, splice, List.take_zero, List.drop_succ_cons, List.drop_zero, List.take_succ_cons, Nat.le_refl, List.drop_nil, List.append_nil, Option.map_some, AV.cells.eq_1, astore, wrCells, List.set_cons_zero, or_true, List.take_nil, Option.some.injEq, true_and]
  exact ⟨_, rfl, done_pur rfl rfl⟩
theorem ok41 : codeOk 20 (Tryz.f41.body.getD .skip) = true := by kernel_rfl
theorem ro41 : resOk 20 Tryz.f41.results = true := by kernel_rfl
theorem dr41 : todoDr [] [.code (Tryz.f41.body.getD .skip)] = true := by kernel_rfl
set_option maxHeartbeats 4000000 in
set_option maxRecDepth 400000 in
theorem many_is (w : Wnt) (n : Nat) (h0 : dwchk 3 2 1 w.p w.q w.r = 0) (hn : (dd (w.rots.flatMap (plL 3 2 1))).length = n) : Pur Tryz.prog GG 41 [w.av, I n] (B true) := by
  have hm := spotsMany_pur 3 2 1 w
  rw [h0, if_pos rfl, whole_len, hn] at hm
  show Pur Tryz.prog GG 41 [WT w.p w.q w.r w.s w.t w.u w.v, I n] _
  refine Pur.of_alone ggp (by simp [AV.purL, AV.pur]) (AC.of_body (c := (Tryz.f41.body.getD .skip)) Tryz.func41 rfl (by decide) ok41 ro41 (by exact (by decide : 2 ≤ 20)) ?_)
  refine walk hmix TOk.nil [] 3000 0 dr41 ?_
  delta Tryz.f41
  simp only [Option.getD_some]
  simp (maxSteps := 2000000) only [resA, resL, resVar, Option.some.injEq, kw0, List.size_toArray, List.length_cons, List.length_nil, Nat.zero_add, Nat.reduceAdd, List.range_succ, List.range_zero, List.nil_append, List.cons_append, List.getElem?_toArray, List.getElem?_cons_zero, Go.Ab.put, ↓opK_some, ↓guK_none, kw1, roOf, aop, ev, argTs, List.getD_cons_zero, AV.isEl.eq_2, ↓reduceIte, AV.cells.eq_1, ↓roK_ok, List.getElem?_cons_succ, ofV, List.contains_nil, tcall, Tab.nil, List.map_nil, ↓roK_call, aload, ty0, rdCells, upd, Nat.reduceEqDiff, Nat.le_refl, List.drop_zero, List.take_succ_cons, List.take_nil, Option.map_some, List.map_cons, true_and]
  refine ⟨_, toVP some_pur, _, toVP hm, ?_⟩
  simp (maxSteps := 2000000) only [List.getElem?_cons_zero, Option.map_some, ↓roK_ok, kw1, List.getElem?_toArray, List.getElem?_cons_succ, Go.Ab.put, ↓opK_some, ↓guK_none, roOf, aop, ev, upd, Nat.reduceEqDiff, ↓reduceIte, symR_nil, kw0, List.size_toArray, List.length_cons, List.length_nil, Nat.zero_add, Nat.reduceAdd, List.range_succ, List.range_zero, List.nil_append, List.cons_append, aBin, ofV, aBinI, beq_self_eq_true, ↓guK_some, Option.bind_some, ↓tmK_some, ↓gsK_true, argTs, List.getD_cons_succ, List.getD_cons_zero, pickA, cond_true, reduceCtorEq, or_true, true_and]
  exact ⟨_, rfl, done_pur rfl rfl⟩
theorem ok12 : codeOk 15 (Tryz.f12.body.getD .skip) = true := by kernel_rfl
theorem ro12 : resOk 15 Tryz.f12.results = true := by kernel_rfl
theorem dr12 : todoDr [] [.code (Tryz.f12.body.getD .skip)] = true := by kernel_rfl
set_option maxHeartbeats 4000000 in
set_option maxRecDepth 400000 in
theorem alive12 : Pur Tryz.prog GG 12 [] (B true) := by
  have h1 := many_is ⟨1, 1, 1, false, false, false, false⟩ 6 (by decide +kernel) (by decide +kernel)
  have h2 := many_is ⟨3, 1, 1, false, false, false, false⟩ 2 (by decide +kernel) (by decide +kernel)
  have h3 := many_is ⟨2, 1, 1, false, false, false, false⟩ 6 (by decide +kernel) (by decide +kernel)
  have h4 := many_is ⟨2, 1, 1, false, false, false, true⟩ 9 (by decide +kernel) (by decide +kernel)
  refine Pur.of_alone ggp (by simp [AV.purL, AV.pur]) (AC.of_body (c := (Tryz.f12.body.getD .skip)) Tryz.func12 rfl (by decide) ok12 ro12 (by exact (by decide : 0 ≤ 15)) ?_)
  refine walk hmix TOk.nil [] 3000 0 dr12 ?_
  delta Tryz.f12
  simp only [Option.getD_some]
  simp (maxSteps := 2000000) only [resA, resL, resVar, Option.some.injEq, kw0, List.size_toArray, List.length_cons, List.length_nil, Nat.zero_add, List.range_succ, List.range_zero, List.nil_append, List.getElem?_toArray, List.getElem?_cons_zero, Go.Ab.put, ↓opK_some, ↓guK_none, kw1, roOf, aop, ev, ofV, ↓roK_ok, Nat.reduceAdd, List.cons_append, tcall, Tab.nil, List.map_cons, List.map_nil, ↓roK_call, true_and]
  refine AC.pur (shaped_pur 1 1 1 false) ?_
  refine walk hmix TOk.nil [] 3000 0 (by kernel_rfl) ?_
  simp (maxSteps := 2000000) only [kw0, List.getElem?_toArray, List.getElem?_cons_succ, List.getElem?_cons_zero, Go.Ab.put, ↓opK_some, ↓guK_none, kw1, roOf, tcall, ev, Tab.nil, List.map_cons, upd, ↓reduceIte, ofV, List.map_nil, ↓roK_call]
  refine AC.pur h1 ?_
  refine walk hmix TOk.nil [] 3000 0 (by kernel_rfl) ?_
  simp (maxSteps := 2000000) only [kw0, List.getElem?_toArray, List.getElem?_cons_succ, List.getElem?_cons_zero, Go.Ab.put, ↓opK_some, ↓guK_none, kw1, roOf, aop, ev, upd, ↓reduceIte, ↓roK_ok, ↓guK_some, Option.bind_some, ↓tmK_some, ↓gsK_true, beq_self_eq_true, tcall, Tab.nil, List.map_cons, ofV, List.map_nil, ↓roK_call, true_and]
  refine AC.pur (shaped_pur 3 1 1 false) ?_
  refine walk hmix TOk.nil [] 3000 0 (by kernel_rfl) ?_
  simp (maxSteps := 2000000) only [kw0, List.getElem?_toArray, List.getElem?_cons_succ, List.getElem?_cons_zero, Go.Ab.put, ↓opK_some, ↓guK_some, Option.bind_some, ↓tmK_some, kw1, upd, Nat.reduceEqDiff, ↓reduceIte, ↓gsK_true, beq_self_eq_true, roOf, tcall, ev, Tab.nil, List.map_cons, ofV, List.map_nil, ↓roK_call]
  refine AC.pur h2 ?_
  refine walk hmix TOk.nil [] 3000 0 (by kernel_rfl) ?_
  simp (maxSteps := 2000000) only [kw0, List.getElem?_toArray, List.getElem?_cons_succ, List.getElem?_cons_zero, Go.Ab.put, ↓opK_some, ↓guK_none, kw1, roOf, aop, ev, upd, Nat.reduceEqDiff, ↓reduceIte, pickA, ofV, cond_true, ↓roK_ok, ↓guK_some, Option.bind_some, ↓tmK_some, ↓gsK_true, beq_self_eq_true, tcall, Tab.nil, List.map_cons, List.map_nil, ↓roK_call, true_and]
  refine AC.pur (shaped_pur 2 1 1 false) ?_
  refine walk hmix TOk.nil [] 3000 0 (by kernel_rfl) ?_
  simp (maxSteps := 2000000) only [kw0, List.getElem?_toArray, List.getElem?_cons_succ, List.getElem?_cons_zero, Go.Ab.put, ↓opK_some, ↓guK_some, Option.bind_some, ↓tmK_some, kw1, upd, Nat.reduceEqDiff, ↓reduceIte, ↓gsK_true, beq_self_eq_true, roOf, tcall, ev, Tab.nil, List.map_cons, ofV, List.map_nil, ↓roK_call]
  refine AC.pur h3 ?_
  refine walk hmix TOk.nil [] 3000 0 (by kernel_rfl) ?_
  simp (maxSteps := 2000000) only [kw0, List.getElem?_toArray, List.getElem?_cons_succ, List.getElem?_cons_zero, Go.Ab.put, ↓opK_some, ↓guK_none, kw1, roOf, aop, ev, upd, Nat.reduceEqDiff, ↓reduceIte, pickA, ofV, cond_true, ↓roK_ok, ↓guK_some, Option.bind_some, ↓tmK_some, ↓gsK_true, beq_self_eq_true, tcall, Tab.nil, List.map_cons, List.map_nil, ↓roK_call, true_and]
  refine AC.pur (shaped_pur 2 1 1 true) ?_
  refine walk hmix TOk.nil [] 3000 0 (by kernel_rfl) ?_
  simp (maxSteps := 2000000) only [kw0, List.getElem?_toArray, List.getElem?_cons_succ, List.getElem?_cons_zero, Go.Ab.put, ↓opK_some, ↓guK_some, Option.bind_some, ↓tmK_some, kw1, upd, Nat.reduceEqDiff, ↓reduceIte, ↓gsK_true, beq_self_eq_true, roOf, tcall, ev, Tab.nil, List.map_cons, ofV, List.map_nil, ↓roK_call]
  refine AC.pur h4 ?_
  refine walk hmix TOk.nil [] 3000 0 (by kernel_rfl) ?_
  simp (maxSteps := 2000000) only [kw0, List.getElem?_toArray, List.getElem?_cons_succ, List.getElem?_cons_zero, Go.Ab.put, ↓opK_some, ↓guK_none, kw1, roOf, aop, ev, upd, Nat.reduceEqDiff, ↓reduceIte, pickA, ofV, cond_true, ↓roK_ok, reduceCtorEq, or_true, true_and]
  exact ⟨_, rfl, done_pur rfl rfl⟩
end Go.Ab.Pd

set_option linter.unusedSimpArgs false
set_option linter.unusedVariables false
namespace Go.Ab.Pd
open Go.Proofs
theorem spotsA_allw (a b c : Int) {s1 s2 : AV} (q1 : IsSet s1) (q2 : IsSet s2) : ∃ (e1 e2 : Int) (hold : Plc → Bool),
    ∀ w : Wnt, ((∃ e : Int, ¬e = 0 ∧ ¬(dwchk a b c w.p w.q w.r = 0 ∧ e1 = 0 ∧ e2 = 0) ∧ Pur Tryz.prog GG 14 [.agg [I a, I b, I c], w.av, s1, s2] (.tup [.c (.slice none 0 0), I e])) ∨
     ((dwchk a b c w.p w.q w.r = 0 ∧ e1 = 0 ∧ e2 = 0) ∧ Pur Tryz.prog GG 14 [.agg [I a, I b, I c], w.av, s1, s2] (.tup [rsl a b c w ((wholeL a b c w).filter hold), I 0]))) := by
  obtain ⟨e1, p1, _⟩ := check_ex q1 (manyV a b c)
  obtain ⟨e2, p2, _⟩ := check_ex q2 (3 * manyV a b c)
  obtain ⟨hold, hh⟩ := Classical.skolem.1 (fun x : Plc => holds_ex a b c q1 q2 p1 p2 x)
  refine ⟨e1, e2, hold, fun w => ?_⟩
  by_cases h : dwchk a b c w.p w.q w.r = 0
  · by_cases he : e1 = 0 ∧ e2 = 0
    · refine .inr ⟨⟨h, he⟩, ?_⟩
      refine spotsA_ok w q1 q2 h (by rw [← he.1]; exact p1) (by rw [← he.2]; exact p2) fun x hx => ?_
      have := (hh x).1
      rw [if_pos hx, if_pos he] at this
      exact this
    · exact .inl ⟨8, by decide, fun hh => he hh.2, spotsA_sets w q1 q2 h p1 p2 he⟩
  · exact .inl ⟨_, h, fun hh => h hh.1, spotsA_bad w q1 q2 h⟩
theorem rot_v (w : Wnt) (i : Nat) : (w.rot i).v = w.v := by
  unfold Wnt.rot
  split <;> rfl
theorem rot_rot (w : Wnt) : ∀ i, i < 6 → ∀ j, j < 6 → (∃ k, k < 6 ∧ (w.rot i).rot j = w.rot k) ∧ ∃ k, k < 6 ∧ w.rot j = (w.rot i).rot k := by
  have hs : ∀ i, i < 6 → i = 0 ∨ i = 1 ∨ i = 2 ∨ i = 3 ∨ i = 4 ∨ i = 5 := fun i h => by omega
  intro i hi j hj
  rcases hs i hi with rfl | rfl | rfl | rfl | rfl | rfl <;> rcases hs j hj with rfl | rfl | rfl | rfl | rfl | rfl <;>
    refine ⟨?_, ?_⟩ <;> first
      | exact ⟨0, by decide, rfl⟩
      | exact ⟨1, by decide, rfl⟩
      | exact ⟨2, by decide, rfl⟩
      | exact ⟨3, by decide, rfl⟩
      | exact ⟨4, by decide, rfl⟩
      | exact ⟨5, by decide, rfl⟩
theorem turns_t {w : Wnt} (hv : w.v = true) {t : Wnt} : t ∈ w.turns ↔ ∃ i, i < 6 ∧ t = w.rot i := by
  unfold Wnt.turns
  rw [if_pos hv, Wnt.all_mem]
theorem turns_of {w t : Wnt} (hv : w.v = true) (ht : t ∈ w.turns) : t.v = true ∧ ∀ x, x ∈ t.turns ↔ x ∈ w.turns := by
  obtain ⟨i, hi, rfl⟩ := (turns_t hv).1 ht
  have h1 : (w.rot i).v = true := by rw [rot_v, hv]
  refine ⟨h1, fun x => ?_⟩
  rw [turns_t hv, turns_t h1]
  constructor
  · rintro ⟨j, hj, rfl⟩
    exact (rot_rot w i hi j hj).1
  · rintro ⟨j, hj, rfl⟩
    exact (rot_rot w i hi j hj).2
theorem whole_turn (a b c : Int) {w t : Wnt} (hv : w.v = true) (ht : t ∈ w.turns) : wholeL a b c t = wholeL a b c w := by
  refine (whole_rises a b c t).ext (whole_rises a b c w) fun x => ?_
  rw [whole_mem, whole_mem, rawL, rawL, List.mem_flatMap, List.mem_flatMap]
  have h := (turns_of hv ht).2
  exact ⟨fun ⟨y, h1, h2⟩ => ⟨y, (h y).1 h1, h2⟩, fun ⟨y, h1, h2⟩ => ⟨y, (h y).2 h1, h2⟩⟩
theorem okW_turn {w t : Wnt} (hv : w.v = true) (ht : t ∈ w.turns) (hw : okW w.p w.q w.r) : okW t.p t.q t.r := by
  obtain ⟨i, hi, rfl⟩ := (turns_t hv).1 ht
  obtain ⟨h1, h2, h3⟩ := hw
  unfold Wnt.rot okW
  split <;> exact ⟨by assumption, by assumption, by assumption⟩
theorem dwchk_turn {a b c : Int} {w t : Wnt} (hv : w.v = true) (ht : t ∈ w.turns) (h : dwchk a b c w.p w.q w.r = 0) : dwchk a b c t.p t.q t.r = 0 := by
  obtain ⟨h1, h2⟩ := dwchk_ok.1 h
  exact dwchk_ok.2 ⟨h1, okW_turn hv ht h2⟩
def Wnt.still (t : Wnt) : Wnt := ⟨t.p, t.q, t.r, t.s, t.t, t.u, false⟩
theorem still_mem {a b c : Int} (hd : okD a b c) {t : Wnt} {x : Plc} : x ∈ wholeL a b c t.still ↔ x.ok a b c ∧ isT t x := by
  rw [wholeL_mem hd]
  have : t.still.turns = [t.still] := by unfold Wnt.turns; exact if_neg (by decide : ¬ (false : Bool) = true)
  rw [this]
  have e : isT t.still x ↔ isT t x := Iff.rfl
  simp [e]
theorem ok16 : codeOk 26 (Tryz.f16.body.getD .skip) = true := by kernel_rfl
theorem ro16 : resOk 26 Tryz.f16.results = true := by kernel_rfl
theorem dr16 : todoDr [] [.code (Tryz.f16.body.getD .skip)] = true := by kernel_rfl
set_option maxHeartbeats 4000000 in
set_option maxRecDepth 400000 in
theorem same12 {s r : AV} {l : List Plc} (hs : IsSl s (l.map Plc.av)) (hr : IsSl r (l.map Plc.av)) (hl : l.length ≤ 2 ^ 20) : Pur Tryz.prog GG 16 [s, r] (B true) := by
  have hs0 : s.pur = true := hs.pur (purL_map Plc.av _ fun _ => rfl)
  have hr0 : r.pur = true := hr.pur (purL_map Plc.av _ fun _ => rfl)
  have hs1 := hs.len (P := Tryz.prog) un31
  have hr1 := hr.len (P := Tryz.prog) un31
  rw [List.length_map] at hs1 hr1
  refine Pur.of_alone ggp (by simp [AV.purL, AV.pur, hs0, hr0]) (AC.of_body (c := (Tryz.f16.body.getD .skip)) Tryz.func16 rfl (by decide) ok16 ro16 (by exact (by decide : 2 ≤ 26)) ?_)
  refine walk hmix TOk.nil [] 3000 0 dr16 ?_
  delta Tryz.f16
  simp only [Option.getD_some]
  simp (maxSteps := 2000000) only [resA, resL, resVar, Option.some.injEq, kw0, List.size_toArray, List.length_cons, List.length_nil, Nat.zero_add, List.range_succ, List.range_zero, List.nil_append, List.getElem?_toArray, List.getElem?_cons_zero, Go.Ab.put, ↓opK_some, ↓guK_none, kw1, roOf, aop, ev, ofV, ↓roK_ok, Nat.reduceAdd, List.cons_append, upd, reduceCtorEq, ↓reduceIte, argTs, List.getD_cons_zero, List.getElem?_cons_succ, hs1, Option.map_some, Nat.reduceEqDiff, List.getD_cons_succ, hr1, aBin, aBinI, bne_eq_decide', ne_eq, not_true_eq_false, decide_false, ↓gdK_false, true_and]
  have hidx := fun {u : AV} (hu : IsSl u (l.map Plc.av)) (i : Nat) (hi : i < l.length) (H : List AO) => hu.idx (P := Tryz.prog) un31 sz43 (i := (i : Int)) (by rw [List.length_map]; omega) (by omega) H
  refine FW.loopInv (fun m ts H => ∃ i : Nat, i + m = l.length ∧ ts 0 = s ∧ ts 1 = r ∧ ts 5 = I (i : Int)) l.length ⟨0, by omega, rfl, rfl, rfl⟩ ?_
  rintro m ih ts H ⟨i, hi, t0, t1, t5⟩
  refine FW.inLoop ?_
  by_cases hlt : i < l.length
  · have hd1 : decide ((i : Int) < (l.length : Int)) = true := by simp [hlt]
    have hx := hidx hs i hlt
    have hy := hidx hr i hlt
    have hgy := getD_map Plc.av l default hlt
    simp only [Int.toNat_natCast] at hx hy
    rw [hgy] at hx hy
    generalize l.getD i default = y at hx hy hgy
    have hcy := Plc.cells y
    have heq : aEqS Tryz.prog 43 (.agg [I y.x, I y.y, I y.z, I y.p, I y.q, I y.r, B y.s, B y.t, B y.u]) (.agg [I y.x, I y.y, I y.z, I y.p, I y.q, I y.r, B y.s, B y.t, B y.u]) = some (decide (y = y)) := Plc.eq y y
    rw [decide_eq_true rfl] at heq
    have hbb : (0 ≤ (i : Int) ∧ (i : Int) < ((List.map Plc.av l).length : Int)) := ⟨by omega, by rw [List.length_map]; omega⟩
    refine walk hmix TOk.nil [] 3000 0 (by kernel_rfl) ?_
    simp (maxSteps := 2000000) only [kw0, List.size_toArray, List.length_cons, List.length_nil, Nat.zero_add, Nat.reduceAdd, List.range_succ, List.range_zero, List.nil_append, List.cons_append, List.getElem?_toArray, List.getElem?_cons_zero, Go.Ab.put, ↓opK_some, ↓guK_none, kw1, roOf, aop, ev, t5, ↓roK_ok, List.getElem?_cons_succ, upd, reduceCtorEq, ↓reduceIte, t0, hs1, Option.map_some, aBin, Nat.reduceEqDiff, aBinI, hd1, ↓gdK_true, List.contains_nil, aInt, hx, hcy, and_true, aload, ty2, rdCells, Nat.le_refl, List.drop_zero, List.take_succ_cons, List.take_nil, t1, hy, aBinAgg, heq, Bool.not_true, symR_nil, ↓gdK_false, ofV, true_and]
    refine ⟨hbb, hbb, ?_⟩
    refine walk hmix TOk.nil [] 3000 0 (by kernel_rfl) ?_
    simp (maxSteps := 2000000) only [kw0]
    rw [wrapL (n := (i : Int) + 1) (by omega) (by omega)]
    exact ih (m - 1) (by omega) _ _ ⟨i + 1, by omega, t0, t1, rfl⟩
  · have hd1 : decide ((i : Int) < (l.length : Int)) = false := by simp; omega
    refine walk hmix TOk.nil [] 3000 0 (by kernel_rfl) ?_
    simp (maxSteps := 2000000) only [kw0, List.size_toArray, List.length_cons, List.length_nil, Nat.zero_add, Nat.reduceAdd, List.range_succ, List.range_zero, List.nil_append, List.cons_append, List.getElem?_toArray, List.getElem?_cons_zero, Go.Ab.put, ↓opK_some, ↓guK_none, kw1, roOf, aop, ev, t5, ↓roK_ok, List.getElem?_cons_succ, upd, reduceCtorEq, ↓reduceIte, t0, hs1, Option.map_some, aBin, Nat.reduceEqDiff, aBinI, hd1, ↓gdK_false, exitTo, beq_self_eq_true, or_false, ↓exK_some, ofV, or_true, true_and]
    exact ⟨_, rfl, done_pur rfl rfl⟩
end Go.Ab.Pd

set_option linter.unusedSimpArgs false
set_option linter.unusedVariables false
namespace Go.Ab.Pd
open Go.Proofs
theorem ok3 : codeOk 149 (Tryz.f3.body.getD .skip) = true := by kernel_rfl
theorem ro3 : resOk 149 Tryz.f3.results = true := by kernel_rfl
theorem dr3 : todoDr [] [.code (Tryz.f3.body.getD .skip)] = true := by kernel_rfl
set_option maxHeartbeats 16000000 in
set_option maxRecDepth 400000 in
theorem turns_law (hal : Pur Tryz.prog GG 12 [] (B true)) {s1 s2 : AV} (q1 : IsSet s1) (q2 : IsSet s2) (a b c : Int) (w0 : Wnt) :
    Pur Tryz.prog GG 3 [.agg [I a, I b, I c], w0.av, s1, s2] (B true) := by
  have h1 := q1.pur
  have h2 := q2.pur
  obtain ⟨k11, k12, k13⟩ := q1.cell
  obtain ⟨k21, k22, k23⟩ := q2.cell
  obtain ⟨L1, hL1⟩ := q1.len
  obtain ⟨L2, hL2⟩ := q2.len
  have hsm := small_pur a b c
  obtain ⟨e1, e2, hold, hA⟩ := spotsA_allw a b c q1 q2
  obtain ⟨wp, wq, wr, ws, wt, wu, wv⟩ := w0
  show Pur Tryz.prog GG 3 [.agg [I a, I b, I c], WT wp wq wr ws wt wu wv, s1, s2] _
  by_cases g1 : 100 < L1
  · skip
    refine Pur.of_alone ggp (by simp [AV.purL, AV.pur, h1, h2]) (AC.of_body (c := (Tryz.f3.body.getD .skip)) Tryz.func3 rfl (by decide) ok3 ro3 (by exact (by decide : 4 ≤ 149)) ?_)
    refine walk hmix TOk.nil [] 3000 0 dr3 ?_
    delta Tryz.f3
    simp only [Option.getD_some]
    simp (maxSteps := 2000000) only [resA, resL, resVar, Option.some.injEq, kw0, List.size_toArray, List.length_cons, List.length_nil, Nat.zero_add, Nat.reduceAdd, List.range_succ, List.range_zero, List.nil_append, List.cons_append, List.getElem?_toArray, List.getElem?_cons_zero, Go.Ab.put, ↓opK_some, ↓guK_none, kw1, roOf, aop, ev, argTs, List.getD_cons_zero, AV.isEl.eq_2, ↓reduceIte, AV.cells.eq_1, ↓roK_ok, List.getElem?_cons_succ, upd, Nat.reduceEqDiff, List.getD_cons_succ, ofV, tcall, Tab.nil, List.map_nil, ↓roK_call, true_and]
    refine AC.pur hal ?_
    refine walk hmix TOk.nil [] 3000 0 (by kernel_rfl) ?_
    simp (maxSteps := 2000000) only [kw0, List.getElem?_toArray, List.getElem?_cons_succ, List.getElem?_cons_zero, Go.Ab.put, ↓opK_some, ↓guK_none, kw1, roOf, aop, ev, upd, ↓reduceIte, ↓roK_ok, List.size_toArray, List.length_cons, List.length_nil, Nat.zero_add, Nat.reduceAdd, List.range_succ, List.range_zero, List.nil_append, List.cons_append, Nat.reduceEqDiff, argTs, List.getD_cons_succ, List.getD_cons_zero, hL1, Option.map_some, aBin, ofV, aBinI, g1, decide_true, ↓guK_some, Option.bind_some, ↓tmK_some, ↓gsK_true, pickA, cond_true, ↓gdK_true, reduceCtorEq, or_true, true_and]
    exact ⟨_, rfl, done_pur rfl rfl⟩
  · by_cases g2 : 100 < L2
    · skip
      refine Pur.of_alone ggp (by simp [AV.purL, AV.pur, h1, h2]) (AC.of_body (c := (Tryz.f3.body.getD .skip)) Tryz.func3 rfl (by decide) ok3 ro3 (by exact (by decide : 4 ≤ 149)) ?_)
      refine walk hmix TOk.nil [] 3000 0 dr3 ?_
      delta Tryz.f3
      simp only [Option.getD_some]
      simp (maxSteps := 2000000) only [resA, resL, resVar, Option.some.injEq, kw0, List.size_toArray, List.length_cons, List.length_nil, Nat.zero_add, Nat.reduceAdd, List.range_succ, List.range_zero, List.nil_append, List.cons_append, List.getElem?_toArray, List.getElem?_cons_zero, Go.Ab.put, ↓opK_some, ↓guK_none, kw1, roOf, aop, ev, argTs, List.getD_cons_zero, AV.isEl.eq_2, ↓reduceIte, AV.cells.eq_1, ↓roK_ok, List.getElem?_cons_succ, upd, Nat.reduceEqDiff, List.getD_cons_succ, ofV, tcall, Tab.nil, List.map_nil, ↓roK_call, true_and]
      refine AC.pur hal ?_
      refine walk hmix TOk.nil [] 3000 0 (by kernel_rfl) ?_
      simp (maxSteps := 2000000) only [kw0, List.getElem?_toArray, List.getElem?_cons_succ, List.getElem?_cons_zero, Go.Ab.put, ↓opK_some, ↓guK_none, kw1, roOf, aop, ev, upd, ↓reduceIte, ↓roK_ok, List.size_toArray, List.length_cons, List.length_nil, Nat.zero_add, Nat.reduceAdd, List.range_succ, List.range_zero, List.nil_append, List.cons_append, Nat.reduceEqDiff, argTs, List.getD_cons_succ, List.getD_cons_zero, hL1, Option.map_some, aBin, ofV, aBinI, g1, decide_false, ↓guK_some, Option.bind_some, ↓tmK_some, ↓gsK_false, beq_self_eq_true, hL2, g2, decide_true, pickA, cond_false, ↓gsK_true, cond_true, ↓gdK_true, reduceCtorEq, or_true, true_and]
      exact ⟨_, rfl, done_pur rfl rfl⟩
    · cases g3 : smallV a b c
      · rw [g3] at hsm
        refine Pur.of_alone ggp (by simp [AV.purL, AV.pur, h1, h2]) (AC.of_body (c := (Tryz.f3.body.getD .skip)) Tryz.func3 rfl (by decide) ok3 ro3 (by exact (by decide : 4 ≤ 149)) ?_)
        refine walk hmix TOk.nil [] 3000 0 dr3 ?_
        delta Tryz.f3
        simp only [Option.getD_some]
        simp (maxSteps := 2000000) only [resA, resL, resVar, Option.some.injEq, kw0, List.size_toArray, List.length_cons, List.length_nil, Nat.zero_add, Nat.reduceAdd, List.range_succ, List.range_zero, List.nil_append, List.cons_append, List.getElem?_toArray, List.getElem?_cons_zero, Go.Ab.put, ↓opK_some, ↓guK_none, kw1, roOf, aop, ev, argTs, List.getD_cons_zero, AV.isEl.eq_2, ↓reduceIte, AV.cells.eq_1, ↓roK_ok, List.getElem?_cons_succ, upd, Nat.reduceEqDiff, List.getD_cons_succ, ofV, tcall, Tab.nil, List.map_nil, ↓roK_call, true_and]
        refine AC.pur hal ?_
        refine walk hmix TOk.nil [] 3000 0 (by kernel_rfl) ?_
        simp (maxSteps := 2000000) only [kw0, List.getElem?_toArray, List.getElem?_cons_succ, List.getElem?_cons_zero, Go.Ab.put, ↓opK_some, ↓guK_none, kw1, roOf, aop, ev, upd, ↓reduceIte, ↓roK_ok, List.size_toArray, List.length_cons, List.length_nil, Nat.zero_add, Nat.reduceAdd, List.range_succ, List.range_zero, List.nil_append, List.cons_append, Nat.reduceEqDiff, argTs, List.getD_cons_succ, List.getD_cons_zero, hL1, Option.map_some, aBin, ofV, aBinI, g1, decide_false, ↓guK_some, Option.bind_some, ↓tmK_some, ↓gsK_false, beq_self_eq_true, hL2, g2, pickA, cond_false, aload, ty0, rdCells, Nat.le_refl, List.drop_zero, List.take_succ_cons, List.take_nil, tcall, Tab.nil, List.map_cons, List.map_nil, ↓roK_call, true_and]
        refine AC.pur hsm ?_
        refine walk hmix TOk.nil [] 3000 0 (by kernel_rfl) ?_
        simp (maxSteps := 2000000) only [kw0, List.getElem?_toArray, List.getElem?_cons_succ, List.getElem?_cons_zero, Go.Ab.put, ↓opK_some, ↓guK_some, Option.bind_some, ↓tmK_some, kw1, upd, Nat.reduceEqDiff, ↓reduceIte, ↓gsK_false, beq_self_eq_true, roOf, aop, ev, Bool.not_false, ↓roK_ok, ↓guK_none, pickA, ofV, cond_false, ↓gsK_true, cond_true, ↓gdK_true, List.size_toArray, List.length_cons, List.length_nil, Nat.zero_add, Nat.reduceAdd, List.range_succ, List.range_zero, List.nil_append, List.cons_append, reduceCtorEq, or_true, true_and]
        exact ⟨_, rfl, done_pur rfl rfl⟩
      · rw [g3] at hsm
        obtain ⟨w, hwd⟩ : ∃ w : Wnt, w = ⟨wp, wq, wr, ws, wt, wu, true⟩ := ⟨_, rfl⟩
        have hwv : w.v = true := by rw [hwd]
        have hwa : w.av = WT wp wq wr ws wt wu true := by rw [hwd]; rfl
        have hAw := hA w
        rw [hwa] at hAw
        refine Pur.of_alone ggp (by simp [AV.purL, AV.pur, h1, h2]) (AC.of_body (c := (Tryz.f3.body.getD .skip)) Tryz.func3 rfl (by decide) ok3 ro3 (by exact (by decide : 4 ≤ 149)) ?_)
        refine walk hmix TOk.nil [] 3000 0 dr3 ?_
        delta Tryz.f3
        simp only [Option.getD_some]
        simp (maxSteps := 2000000) only [resA, resL, resVar, Option.some.injEq, kw0, List.size_toArray, List.length_cons, List.length_nil, Nat.zero_add, Nat.reduceAdd, List.range_succ, List.range_zero, List.nil_append, List.cons_append, List.getElem?_toArray, List.getElem?_cons_zero, Go.Ab.put, ↓opK_some, ↓guK_none, kw1, roOf, aop, ev, argTs, List.getD_cons_zero, AV.isEl.eq_2, ↓reduceIte, AV.cells.eq_1, ↓roK_ok, List.getElem?_cons_succ, upd, Nat.reduceEqDiff, List.getD_cons_succ, ofV, tcall, Tab.nil, List.map_nil, ↓roK_call, true_and]
        refine AC.pur hal ?_
        refine walk hmix TOk.nil [] 3000 0 (by kernel_rfl) ?_
        simp (maxSteps := 2000000) only [kw0, List.getElem?_toArray, List.getElem?_cons_succ, List.getElem?_cons_zero, Go.Ab.put, ↓opK_some, ↓guK_none, kw1, roOf, aop, ev, upd, ↓reduceIte, ↓roK_ok, List.size_toArray, List.length_cons, List.length_nil, Nat.zero_add, Nat.reduceAdd, List.range_succ, List.range_zero, List.nil_append, List.cons_append, Nat.reduceEqDiff, argTs, List.getD_cons_succ, List.getD_cons_zero, hL1, Option.map_some, aBin, ofV, aBinI, g1, decide_false, ↓guK_some, Option.bind_some, ↓tmK_some, ↓gsK_false, beq_self_eq_true, hL2, g2, pickA, cond_false, aload, ty0, rdCells, Nat.le_refl, List.drop_zero, List.take_succ_cons, List.take_nil, tcall, Tab.nil, List.map_cons, List.map_nil, ↓roK_call, true_and]
        refine AC.pur hsm ?_
        refine walk hmix TOk.nil [] 3000 0 (by kernel_rfl) ?_
        simp (maxSteps := 2000000) only [kw0, List.getElem?_toArray, List.getElem?_cons_succ, List.getElem?_cons_zero, Go.Ab.put, ↓opK_some, ↓guK_some, Option.bind_some, ↓tmK_some, kw1, upd, Nat.reduceEqDiff, ↓reduceIte, ↓gsK_false, beq_self_eq_true, roOf, aop, ev, Bool.not_true, ↓roK_ok, ↓guK_none, pickA, ofV, cond_false, ↓gdK_false, List.size_toArray, List.length_cons, List.length_nil, Nat.zero_add, Nat.reduceAdd, List.range_succ, List.range_zero, List.nil_append, List.cons_append, ty1, ptrAdd, Option.map_some, astore, AV.isEl.eq_2, ty0, AV.cells.eq_2, and_self, wrCells, Nat.le_refl, splice, List.take_succ_cons, List.take_zero, List.drop_succ_cons, List.drop_nil, List.append_nil, List.set_cons_succ, List.set_cons_zero, aload, rdCells, List.drop_zero, List.take_nil, argTs, List.getD_cons_succ, List.getD_cons_zero, tcall, Tab.nil, List.map_cons, List.map_nil, ↓roK_call, true_and]
        rcases hAw with ⟨e, he, _, hAw⟩ | ⟨hg, hAw⟩
        · refine AC.pur hAw ?_
          by_cases hw : okW w.p w.q w.r
          · have hT := turnsA_pur w hw
            rw [hwa] at hT
            refine walk hmix TOk.nil [] 3000 0 (by kernel_rfl) ?_
            simp (maxSteps := 2000000) only [kw0, List.getElem?_toArray, List.getElem?_cons_succ, List.getElem?_cons_zero, Go.Ab.put, ↓opK_some, ↓guK_none, kw1, roOf, aop, ev, upd, ↓reduceIte, ↓roK_ok, Option.map_some, Nat.reduceEqDiff, List.size_toArray, List.length_cons, List.length_nil, Nat.zero_add, Nat.reduceAdd, List.range_succ, List.range_zero, List.nil_append, List.cons_append, aload, ty0, rdCells, Nat.le_refl, List.drop_zero, List.take_succ_cons, List.take_nil, tcall, Tab.nil, List.map_cons, List.map_nil, ↓roK_call, true_and]
            refine AC.pur hT ?_
            refine walk hmix TOk.nil [] 3000 0 (by kernel_rfl) ?_
            simp (maxSteps := 2000000) only [kw0, List.getElem?_toArray, List.getElem?_cons_succ, List.getElem?_cons_zero, Go.Ab.put, ↓opK_some, ↓guK_none, kw1, roOf, aop, ev, upd, ↓reduceIte, ↓roK_ok, Option.map_some, Nat.reduceEqDiff, List.size_toArray, List.length_cons, List.length_nil, Nat.zero_add, Nat.reduceAdd, List.range_succ, List.range_zero, List.nil_append, List.cons_append, aBin, ofV, aBinI, bne_eq_decide', ne_eq, he, not_false_eq_true, decide_true, ↓guK_some, Option.bind_some, ↓tmK_some, ↓gsK_true, pickA, cond_true, ↓gdK_true, ty1, beq_self_eq_true, reduceCtorEq, or_true, true_and]
            exact ⟨_, rfl, done_pur rfl rfl⟩
          · have hT := turnsN_pur w hw
            rw [hwa] at hT
            refine walk hmix TOk.nil [] 3000 0 (by kernel_rfl) ?_
            simp (maxSteps := 2000000) only [kw0, List.getElem?_toArray, List.getElem?_cons_succ, List.getElem?_cons_zero, Go.Ab.put, ↓opK_some, ↓guK_none, kw1, roOf, aop, ev, upd, ↓reduceIte, ↓roK_ok, Option.map_some, Nat.reduceEqDiff, List.size_toArray, List.length_cons, List.length_nil, Nat.zero_add, Nat.reduceAdd, List.range_succ, List.range_zero, List.nil_append, List.cons_append, aload, ty0, rdCells, Nat.le_refl, List.drop_zero, List.take_succ_cons, List.take_nil, tcall, Tab.nil, List.map_cons, List.map_nil, ↓roK_call, true_and]
            refine AC.pur hT ?_
            refine walk hmix TOk.nil [] 3000 0 (by kernel_rfl) ?_
            simp (maxSteps := 2000000) only [kw0, List.getElem?_toArray, List.getElem?_cons_succ, List.getElem?_cons_zero, Go.Ab.put, ↓opK_some, ↓guK_none, kw1, roOf, aop, ev, upd, ↓reduceIte, ↓roK_ok, Option.map_some, Nat.reduceEqDiff, List.size_toArray, List.length_cons, List.length_nil, Nat.zero_add, Nat.reduceAdd, List.range_succ, List.range_zero, List.nil_append, List.cons_append, aBin, ofV, aBinI, bne_eq_decide', ne_eq, he, not_false_eq_true, decide_true, ↓guK_some, Option.bind_some, ↓tmK_some, ↓gsK_true, pickA, cond_true, ↓gdK_true, ty1, beq_self_eq_true, reduceCtorEq, or_true, true_and]
            exact ⟨_, rfl, done_pur rfl rfl⟩
        · refine AC.pur hAw ?_
          obtain ⟨hd, hw⟩ := dwchk_ok.1 hg.1
          have hT := turnsA_pur w hw
          rw [hwa] at hT
          refine walk hmix TOk.nil [] 3000 0 (by kernel_rfl) ?_
          simp (maxSteps := 2000000) only [kw0, List.getElem?_toArray, List.getElem?_cons_succ, List.getElem?_cons_zero, Go.Ab.put, ↓opK_some, ↓guK_none, kw1, roOf, aop, ev, upd, ↓reduceIte, ↓roK_ok, Option.map_some, Nat.reduceEqDiff, List.size_toArray, List.length_cons, List.length_nil, Nat.zero_add, Nat.reduceAdd, List.range_succ, List.range_zero, List.nil_append, List.cons_append, aload, ty0, rdCells, Nat.le_refl, List.drop_zero, List.take_succ_cons, List.take_nil, tcall, Tab.nil, List.map_cons, List.map_nil, ↓roK_call, true_and]
          refine AC.pur hT ?_
          have hr := rsl_is (a := a) (b := b) (c := c) (w := w) hold
          generalize hrd : rsl a b c w ((wholeL a b c w).filter hold) = r at hr
          have hlen := hr.len un31
          rw [List.length_map] at hlen
          have hle := Nat.le_trans (List.length_filter_le hold (wholeL a b c w)) (whole_le hd w)
          have hF : ∀ y, y ∈ (wholeL a b c w).filter hold ↔ (y.ok a b c ∧ ∃ t, t ∈ w.turns ∧ isT t y) ∧ hold y = true := fun y => by
            rw [List.mem_filter, wholeL_mem hd, List.any_eq_true]
            simp only [decide_eq_true_eq]
          generalize hFd : (wholeL a b c w).filter hold = F at hr hlen hle hF
          refine walk hmix TOk.nil [] 3000 0 (by kernel_rfl) ?_
          simp (maxSteps := 2000000) only [kw0, List.getElem?_toArray, List.getElem?_cons_succ, List.getElem?_cons_zero, Go.Ab.put, ↓opK_some, ↓guK_none, kw1, roOf, aop, ev, upd, ↓reduceIte, ↓roK_ok, Option.map_some, Nat.reduceEqDiff, List.size_toArray, List.length_cons, List.length_nil, Nat.zero_add, Nat.reduceAdd, List.range_succ, List.range_zero, List.nil_append, List.cons_append, aBin, ofV, aBinI, bne_eq_decide', ne_eq, not_true_eq_false, decide_false, ↓guK_some, Option.bind_some, ↓tmK_some, ↓gsK_false, beq_self_eq_true, pickA, cond_false, ↓gdK_false, hlen, ty1, aInt, ty0, Int.cast_ofNat_Int, Int.reducePow, true_and, slv, AV.cells.eq_2]
          refine ⟨by omega, ?_⟩
          obtain ⟨fv, hfv⟩ : ∃ fv : AV, fv = match (F.length : Int).toNat with
            | 0 => AV.zs
            | n + 1 => AV.sl 2 0 (n + 1) (n + 1) := ⟨_, rfl⟩
          have hfl : aLen Tryz.prog 38 fv = some (F.length : Int) := by
            rw [hfv, Int.toNat_natCast]
            cases F.length
            · exact lz38
            · exact ls38 _ _ _ _
          have hfs : ∀ j, j < F.length → fv = .sl 2 0 F.length F.length := fun j hj => by
            rw [hfv, Int.toNat_natCast]
            cases hn : F.length
            · omega
            · rfl
          clear hAw hT hsm hL1 hL2 hal
          have htl := w.turns_len
          refine FW.loopInv (fun m ts H => ∃ (i : Nat) (fs : List Bool), i + m = w.turns.length ∧ fs.length = F.length ∧ (∀ j, j < F.length → fs.getD j false = (w.turns.take i).any fun t => decide (isT t (F.getD j default))) ∧
              H[0]? = some (.cells [I a, I b, I c]) ∧ H[2]? = some (.arr 1 (fs.map B)) ∧ ts 2 = s1 ∧ ts 3 = s2 ∧ ts 4 = .ptr 0 0 ∧ ts 10 = r ∧ ts 12 = .isl (w.turns.map Wnt.av) ∧ ts 14 = fv ∧ ts 15 = I (i : Int)) w.turns.length
            ⟨0, List.replicate F.length false, by omega, by simp, fun j hj => by simp [List.getD, hj], rfl, by simp, rfl, rfl, rfl, rfl, rfl, hfv.symm, rfl⟩ ?_
          rintro m ih ts H ⟨i, fs, hi, hfn, hfa, m0, m2, t2, t3, t4, t10, t12, t14, t15⟩
          refine FW.inLoop ?_
          by_cases hlt : i < w.turns.length
          · have hd1 : decide ((i : Int) < (w.turns.length : Int)) = true := by simp [hlt]
            have hgt := getD_map Wnt.av w.turns default hlt
            have hmem : w.turns.getD i default ∈ w.turns := by simp [List.getD, hlt]
            have htk := take_succ_getD default hlt
            generalize w.turns.getD i default = t at hgt hmem htk
            have hct := Wnt.cells t
            obtain ⟨htv, htt⟩ := turns_of hwv hmem
            have hdt := dwchk_turn hwv hmem hg.1
            have hA1 := hA t.still
            have hA2 := hA t
            have hHl := lt_of_get m2
            have hH0 : ∀ x, (H ++ [x])[0]? = some (.cells [I a, I b, I c]) := fun x => by rw [List.getElem?_append_left (by omega), m0]
            have hH2 : ∀ x, (H ++ [x])[2]? = some (.arr 1 (fs.map B)) := fun x => by rw [List.getElem?_append_left (by omega), m2]
            refine walk hmix TOk.nil [] 3000 0 (by kernel_rfl) ?_
            simp (maxSteps := 2000000) only [kw0, List.size_toArray, List.length_cons, List.length_nil, Nat.zero_add, Nat.reduceAdd, List.range_succ, List.range_zero, List.nil_append, List.cons_append, List.getElem?_toArray, List.getElem?_cons_zero, Go.Ab.put, ↓opK_some, ↓guK_none, kw1, roOf, aop, ev, t15, ↓roK_ok, List.getElem?_cons_succ, upd, Nat.reduceEqDiff, ↓reduceIte, t12, ty1, List.length_map, Option.map_some, aBin, aBinI, hd1, ↓gdK_true, aInt, Int.toNat_natCast, hgt, hct, and_true, aload, ty0, rdCells, Nat.le_refl, List.drop_zero, List.take_succ_cons, List.take_nil, astore, AV.isEl.eq_2, AV.cells.eq_1, and_self, wrCells, getA0, splice, List.take_zero, List.drop_succ_cons, List.drop_nil, List.append_nil, setA0, List.set_cons_zero, ptrAdd, ofV, AV.cells.eq_2, t4, hH0, t2, t3, tcall, Tab.nil, List.map_cons, List.map_nil, ↓roK_call, true_and]
            refine ⟨by omega, ?_⟩
            have hA1 := (hA t.still).resolve_left (fun ⟨e, _, hn, _⟩ => hn ⟨hdt, hg.2⟩)
            have hA2 := (hA t).resolve_left (fun ⟨e, _, hn, _⟩ => hn ⟨hdt, hg.2⟩)
            have hA1' : Pur Tryz.prog GG 14 [.agg [I a, I b, I c], WT t.p t.q t.r t.s t.t t.u false, s1, s2] (.tup [rsl a b c t.still ((wholeL a b c t.still).filter hold), I 0]) := hA1.2
            have hA2' : Pur Tryz.prog GG 14 [.agg [I a, I b, I c], WT t.p t.q t.r t.s t.t t.u t.v, s1, s2] (.tup [rsl a b c t ((wholeL a b c t).filter hold), I 0]) := hA2.2
            have hry := rsl_is (a := a) (b := b) (c := c) (w := t) hold
            rw [whole_turn a b c hwv hmem, hFd] at hry hA2'
            generalize rsl a b c t F = ry at hry hA2'
            have hrm := rsl_is (a := a) (b := b) (c := c) (w := t.still) hold
            generalize rsl a b c t.still ((wholeL a b c t.still).filter hold) = rm at hrm hA1'
            have hmlen := hrm.len un31
            rw [List.length_map] at hmlen
            have hmle := Nat.le_trans (List.length_filter_le hold (wholeL a b c t.still)) (whole_le hd t.still)
            have hM : ∀ y, y ∈ (wholeL a b c t.still).filter hold ↔ (y.ok a b c ∧ isT t y) ∧ hold y = true := fun y => by
              rw [List.mem_filter, still_mem hd]
            generalize (wholeL a b c t.still).filter hold = M at hrm hmlen hmle hM
            have hMF : ∀ y, y ∈ M → y ∈ F := fun y hy => by
              obtain ⟨⟨n1, n2⟩, n3⟩ := (hM y).1 hy
              exact (hF y).2 ⟨⟨n1, t, hmem, n2⟩, n3⟩
            refine AC.pur hA1' ?_
            refine walk hmix TOk.nil [] 3000 0 (by kernel_rfl) ?_
            simp (maxSteps := 2000000) only [kw0, List.getElem?_toArray, List.getElem?_cons_succ, List.getElem?_cons_zero, Go.Ab.put, ↓opK_some, ↓guK_none, kw1, roOf, aop, ev, upd, ↓reduceIte, ↓roK_ok, Option.map_some, Nat.reduceEqDiff, List.contains_nil, List.size_toArray, List.length_cons, List.length_nil, Nat.zero_add, Nat.reduceAdd, List.range_succ, List.range_zero, List.nil_append, List.cons_append, aload, ty0, rdCells, t4, hH0, Nat.le_refl, List.drop_zero, List.take_succ_cons, List.take_nil, t12, t15, aInt, ty1, List.length_map, Int.toNat_natCast, hgt, hct, and_true, t2, t3, tcall, Tab.nil, List.map_cons, List.map_nil, ↓roK_call, true_and]
            refine ⟨by omega, _, toVP hA2', ?_⟩
            simp (maxSteps := 2000000) only [List.getElem?_cons_zero, Option.map_some, ↓roK_ok, kw1, List.getElem?_toArray, List.getElem?_cons_succ, Go.Ab.put, ↓opK_some, ↓guK_none, roOf, aop, ev, upd, Nat.reduceEqDiff, ↓reduceIte, symR_nil, kw0, List.size_toArray, List.length_cons, List.length_nil, Nat.zero_add, Nat.reduceAdd, List.range_succ, List.range_zero, List.nil_append, List.cons_append, aBin, ofV, aBinI, bne_eq_decide', ne_eq, not_true_eq_false, decide_false, ↓guK_some, Option.bind_some, ↓tmK_some, ↓gsK_false, beq_self_eq_true, pickA, cond_false, t10, tcall, Tab.nil, List.map_cons, List.map_nil, ↓roK_call, true_and]
            refine AC.pur (same12 hry hr (by omega)) ?_
            refine walk hmix TOk.nil [] 3000 0 (by kernel_rfl) ?_
            simp (maxSteps := 2000000) only [kw0, List.getElem?_toArray, List.getElem?_cons_succ, List.getElem?_cons_zero, Go.Ab.put, ↓opK_some, ↓guK_some, Option.bind_some, ↓tmK_some, kw1, upd, Nat.reduceEqDiff, ↓reduceIte, ↓gsK_false, beq_self_eq_true, roOf, aop, ev, Bool.not_true, ↓roK_ok, ↓guK_none, pickA, ofV, cond_false, ↓gdK_false, List.size_toArray, List.length_cons, List.length_nil, Nat.zero_add, List.range_succ, List.range_zero, List.nil_append, true_and]
            refine FW.loopInv (fun n ts H => ∃ (k : Nat) (fs : List Bool), k + n = M.length ∧ fs.length = F.length ∧ (∀ j, j < F.length → fs.getD j false = (((w.turns.take i).any fun t => decide (isT t (F.getD j default))) || decide (F.getD j default ∈ M.take k))) ∧
                H[0]? = some (.cells [I a, I b, I c]) ∧ H[2]? = some (.arr 1 (fs.map B)) ∧ ts 2 = s1 ∧ ts 3 = s2 ∧ ts 4 = .ptr 0 0 ∧ ts 10 = r ∧ ts 12 = .isl (w.turns.map Wnt.av) ∧ ts 14 = fv ∧ ts 15 = I (i : Int) ∧ ts 17 = rm ∧ ts 21 = I (k : Int)) M.length
              ⟨0, fs, by omega, hfn, fun j hj => by rw [hfa j hj]; simp, hH0 _, hH2 _, t2, t3, t4, t10, t12, t14, t15, rfl, rfl⟩ ?_
            clear hfa m0 m2 t2 t3 t4 t10 t12 t14 t15 hH0 hH2 hHl hfn
            rintro n ih2 ts H ⟨k, fs, hk, hfn, hfa, m0, m2, t2, t3, t4, t10, t12, t14, t15, t17, t21⟩
            refine FW.inLoop ?_
            by_cases hltk : k < M.length
            · have hd2 : decide ((k : Int) < (M.length : Int)) = true := by simp [hltk]
              have hgm := getD_map Plc.av M default hltk
              have hmk := hrm.idx (P := Tryz.prog) un31 sz43 (i := (k : Int)) (by rw [List.length_map]; omega) (by omega)
              rw [Int.toNat_natCast, hgm] at hmk
              have hyM : M.getD k default ∈ M := by simp [List.getD, hltk]
              have htkM := take_succ_getD default hltk
              generalize M.getD k default = y at hgm hmk hyM htkM
              have hcy := Plc.cells y
              refine walk hmix TOk.nil [] 3000 0 (by kernel_rfl) ?_
              simp (maxSteps := 2000000) only [kw0, List.size_toArray, List.length_cons, List.length_nil, Nat.zero_add, Nat.reduceAdd, List.range_succ, List.range_zero, List.nil_append, List.cons_append, List.getElem?_toArray, List.getElem?_cons_zero, Go.Ab.put, ↓opK_some, ↓guK_none, kw1, roOf, aop, ev, t21, ↓roK_ok, List.getElem?_cons_succ, upd, Nat.reduceEqDiff, ↓reduceIte, t17, hmlen, Option.map_some, aBin, aBinI, hd2, ↓gdK_true, ofV, true_and]
              refine FW.loopInv (fun n ts H => ∃ (j : Nat) (gs : List Bool), j + n = F.length ∧ gs.length = F.length ∧ (∀ q, q < F.length → gs.getD q false = (fs.getD q false || (decide (q < j) && decide (F.getD q default = y)))) ∧
                  H[0]? = some (.cells [I a, I b, I c]) ∧ H[2]? = some (.arr 1 (gs.map B)) ∧ ts 2 = s1 ∧ ts 3 = s2 ∧ ts 4 = .ptr 0 0 ∧ ts 10 = r ∧ ts 12 = .isl (w.turns.map Wnt.av) ∧ ts 14 = fv ∧ ts 15 = I (i : Int) ∧ ts 17 = rm ∧ ts 21 = I (k : Int) ∧ ts 22 = B (decide (y ∈ F.take j)) ∧ ts 23 = I (j : Int)) F.length
                ⟨0, fs, by omega, hfn, fun q hq => by simp, m0, m2, t2, t3, t4, t10, t12, t14, t15, t17, t21, by rw [decide_eq_false (by simp)]; rfl, rfl⟩ ?_
              clear m0 m2 t2 t3 t4 t10 t12 t14 t15 t17 t21
              rintro n' ih3 ts H ⟨j, gs, hj, hgn, hga, m0, m2, t2, t3, t4, t10, t12, t14, t15, t17, t21, t22, t23⟩
              refine FW.inLoop ?_
              by_cases hltj : j < F.length
              · have hd3 : decide ((j : Int) < (F.length : Int)) = true := by simp [hltj]
                have hgz := getD_map Plc.av F default hltj
                have hmz := hr.idx (P := Tryz.prog) un31 sz43 (i := (j : Int)) (by rw [List.length_map]; omega) (by omega)
                rw [Int.toNat_natCast, hgz] at hmz
                have htkF := take_succ_getD default hltj
                obtain ⟨z, hz⟩ : ∃ z, z = F.getD j default := ⟨_, rfl⟩
                rw [← hz] at hgz hmz htkF
                have hcz := Plc.cells z
                have heq : aEqS Tryz.prog 43 (.agg [I z.x, I z.y, I z.z, I z.p, I z.q, I z.r, B z.s, B z.t, B z.u]) (.agg [I y.x, I y.y, I y.z, I y.p, I y.q, I y.r, B y.s, B y.t, B y.u]) = some (decide (z = y)) := Plc.eq z y
                have hb1 : (0 ≤ (j : Int) ∧ (j : Int) < ((List.map Plc.av F).length : Int)) := ⟨by omega, by rw [List.length_map]; omega⟩
                have hb2 : (0 ≤ (k : Int) ∧ (k : Int) < ((List.map Plc.av M).length : Int)) := ⟨by omega, by rw [List.length_map]; omega⟩
                by_cases hzy : z = y
                · rw [decide_eq_true hzy] at heq
                  have hfj := hfs j hltj
                  have hjl : j < gs.length := by omega
                  have hgg : (gs.map B).getD j .un = AV.c (.bool (gs.getD j false)) := getD_map B gs false hjl
                  rw [hfj] at t14
                  refine walk hmix TOk.nil [] 3000 0 (by kernel_rfl) ?_
                  simp (maxSteps := 2000000) only [kw0, List.size_toArray, List.length_cons, List.length_nil, Nat.zero_add, Nat.reduceAdd, List.range_succ, List.range_zero, List.nil_append, List.cons_append, List.getElem?_toArray, List.getElem?_cons_zero, Go.Ab.put, ↓opK_some, ↓guK_none, kw1, roOf, aop, ev, t23, ↓roK_ok, List.getElem?_cons_succ, upd, Nat.reduceEqDiff, ↓reduceIte, t10, hlen, Option.map_some, aBin, aBinI, hd3, ↓gdK_true, List.contains_nil, aInt, hmz, List.length_map, hcz, and_true, aload, ty2, rdCells, Nat.le_refl, List.drop_zero, List.take_succ_cons, List.take_nil, t17, t21, hmk, hcy, aBinAgg, heq, symR_nil, t14, ty1, m2, Int.toNat_natCast, astore, ofV, AV.isEl.eq_2, ty0, AV.cells.eq_2, and_self, wrCells, hjl, reEl, hgg, splice, List.take_zero, List.drop_succ_cons, List.drop_nil, List.append_nil, List.getD_cons_zero, true_and]
                  refine ⟨by omega, by omega, by omega, ?_⟩
                  rw [wrapL (n := (j : Int) + 1) (by omega) (by omega)]
                  have hset : (gs.map B).set j (B true) = (gs.set j true).map B := by rw [List.map_set]
                  rw [hset]
                  refine ih3 (n' - 1) (by omega) _ _ ⟨j + 1, gs.set j true, by omega, by rw [List.length_set]; exact hgn, fun q hq => ?_, by rw [List.getElem?_set_ne (by decide)]; exact m0, by rw [List.getElem?_set_self (lt_of_get m2)], t2, t3, t4, t10, t12, t14.trans hfj.symm, t15, t17, t21, ?_, rfl⟩
                  · by_cases hqj : q = j
                    · subst hqj
                      rw [← hz, decide_eq_true hzy, decide_eq_true (by omega : q < q + 1)]
                      simp [List.getD, hgn, hq]
                    · have e1 : (gs.set j true).getD q false = gs.getD q false := by
                        rw [List.getD_eq_getElem?_getD, List.getD_eq_getElem?_getD, List.getElem?_set_ne (Ne.symm hqj)]
                      have e2 : decide (q < j + 1) = decide (q < j) := decide_eq_decide.2 (by omega)
                      rw [e1, e2, hga q hq]
                  · rw [htkF, decide_eq_true (by rw [hzy]; simp)]
                    rfl
                · rw [decide_eq_false hzy] at heq
                  refine walk hmix TOk.nil [] 3000 0 (by kernel_rfl) ?_
                  simp (maxSteps := 2000000) only [kw0, List.size_toArray, List.length_cons, List.length_nil, Nat.zero_add, Nat.reduceAdd, List.range_succ, List.range_zero, List.nil_append, List.cons_append, List.getElem?_toArray, List.getElem?_cons_zero, Go.Ab.put, ↓opK_some, ↓guK_none, kw1, roOf, aop, ev, t23, ↓roK_ok, List.getElem?_cons_succ, upd, Nat.reduceEqDiff, ↓reduceIte, t10, hlen, Option.map_some, aBin, aBinI, hd3, ↓gdK_true, List.contains_nil, aInt, hmz, List.length_map, hcz, and_true, aload, ty2, rdCells, Nat.le_refl, List.drop_zero, List.take_succ_cons, List.take_nil, t17, t21, hmk, hcy, aBinAgg, heq, symR_nil, ↓gdK_false, ofV, true_and]
                  refine ⟨by omega, by omega, ?_⟩
                  rw [wrapL (n := (j : Int) + 1) (by omega) (by omega)]
                  refine ih3 (n' - 1) (by omega) _ _ ⟨j + 1, gs, by omega, hgn, fun q hq => ?_, m0, m2, t2, t3, t4, t10, t12, t14, t15, t17, t21, ?_, rfl⟩
                  · rw [hga q hq]
                    by_cases hqj : q = j
                    · subst hqj
                      rw [← hz, decide_eq_false hzy, Bool.and_false, Bool.and_false]
                    · have e2 : decide (q < j + 1) = decide (q < j) := decide_eq_decide.2 (by omega)
                      rw [e2]
                  · refine t22.trans (congrArg B (decide_eq_decide.2 ?_))
                    rw [htkF, List.mem_append, List.mem_singleton]
                    exact ⟨.inl, fun h => h.elim id fun h => absurd h.symm hzy⟩
              · have hd3 : decide ((j : Int) < (F.length : Int)) = false := by simp; omega
                rw [List.take_of_length_le (by omega), decide_eq_true (hMF y hyM)] at t22
                refine walk hmix TOk.nil [] 3000 0 (by kernel_rfl) ?_
                simp (maxSteps := 2000000) only [kw0, List.size_toArray, List.length_cons, List.length_nil, Nat.zero_add, Nat.reduceAdd, List.range_succ, List.range_zero, List.nil_append, List.cons_append, List.getElem?_toArray, List.getElem?_cons_zero, Go.Ab.put, ↓opK_some, ↓guK_none, kw1, roOf, aop, ev, t23, ↓roK_ok, List.getElem?_cons_succ, upd, Nat.reduceEqDiff, ↓reduceIte, t10, hlen, Option.map_some, aBin, aBinI, hd3, ↓gdK_false, exitTo, beq_self_eq_true, reduceCtorEq, or_false, ↓exK_some, t22, Bool.not_true, t21, ofV, true_and]
                rw [wrapL (n := (k : Int) + 1) (by omega) (by omega)]
                refine ih2 (n - 1) (by omega) _ _ ⟨k + 1, gs, by omega, hgn, fun q hq => ?_, m0, m2, t2, t3, t4, t10, t12, t14, t15, t17, rfl⟩
                rw [hga q hq, hfa q hq, htkM, decide_eq_true (by omega : q < j), Bool.true_and, Bool.or_assoc]
                congr 1
                rw [Bool.eq_iff_iff]
                simp
            · have hd2 : decide ((k : Int) < (M.length : Int)) = false := by simp; omega
              refine walk hmix TOk.nil [] 3000 0 (by kernel_rfl) ?_
              simp (maxSteps := 2000000) only [kw0, List.size_toArray, List.length_cons, List.length_nil, Nat.zero_add, Nat.reduceAdd, List.range_succ, List.range_zero, List.nil_append, List.cons_append, List.getElem?_toArray, List.getElem?_cons_zero, Go.Ab.put, ↓opK_some, ↓guK_none, kw1, roOf, aop, ev, t21, ↓roK_ok, List.getElem?_cons_succ, upd, Nat.reduceEqDiff, ↓reduceIte, t17, hmlen, Option.map_some, aBin, aBinI, hd2, ↓gdK_false, exitTo, beq_self_eq_true, reduceCtorEq, or_false, ↓exK_some, t15, ofV, true_and]
              rw [wrapL (n := (i : Int) + 1) (by omega) (by omega)]
              refine ih (m - 1) (by omega) _ _ ⟨i + 1, fs, by omega, hfn, fun j hj => ?_, m0, m2, t2, t3, t4, t10, t12, t14, rfl⟩
              have hy : F.getD j default ∈ F := by simp [List.getD, hj]
              obtain ⟨⟨n1, _⟩, n3⟩ := (hF _).1 hy
              have e : decide (F.getD j default ∈ M) = decide (isT t (F.getD j default)) := by
                refine decide_eq_decide.2 ?_
                rw [hM]
                exact ⟨fun h => h.1.2, fun h => ⟨⟨n1, h⟩, n3⟩⟩
              rw [hfa j hj, List.take_of_length_le (show M.length ≤ k by omega), htk, List.any_append, e]
              simp only [List.any_cons, List.any_nil, Bool.or_false]
          · have hd1 : decide ((i : Int) < (w.turns.length : Int)) = false := by simp; omega
            have hall : ∀ j, j < F.length → fs.getD j false = true := fun j hj => by
              have hy : F.getD j default ∈ F := by simp [List.getD, hj]
              obtain ⟨⟨_, t, ht, hty⟩, _⟩ := (hF _).1 hy
              rw [hfa j hj, List.take_of_length_le (by omega), List.any_eq_true]
              exact ⟨t, ht, decide_eq_true hty⟩
            refine walk hmix TOk.nil [] 3000 0 (by kernel_rfl) ?_
            simp (maxSteps := 2000000) only [kw0, List.size_toArray, List.length_cons, List.length_nil, Nat.zero_add, Nat.reduceAdd, List.range_succ, List.range_zero, List.nil_append, List.cons_append, List.getElem?_toArray, List.getElem?_cons_zero, Go.Ab.put, ↓opK_some, ↓guK_none, kw1, roOf, aop, ev, t15, ↓roK_ok, List.getElem?_cons_succ, upd, Nat.reduceEqDiff, ↓reduceIte, t12, ty1, List.length_map, Option.map_some, aBin, aBinI, hd1, ↓gdK_false, exitTo, beq_self_eq_true, reduceCtorEq, or_false, ↓exK_some, ofV, true_and]
            refine FW.loopInv (fun m ts H => ∃ j : Nat, j + m = F.length ∧ H[2]? = some (.arr 1 (fs.map B)) ∧ ts 14 = fv ∧ ts 24 = I (j : Int)) F.length ⟨0, by omega, m2, t14, rfl⟩ ?_
            clear m2 t14 ih
            rintro m ih ts H ⟨j, hj, m2, t14, t24⟩
            refine FW.inLoop ?_
            by_cases hlt2 : j < F.length
            · have hd2 : decide ((j : Int) < (F.length : Int)) = true := by simp [hlt2]
              have hgb := getD_map B fs false (by omega : j < fs.length)
              rw [hall j hlt2] at hgb
              have hfj := hfs j hlt2
              have hbl : j < (fs.map B).length := by rw [List.length_map]; omega
              rw [hfj] at t14
              refine walk hmix TOk.nil [] 3000 0 (by kernel_rfl) ?_
              simp (maxSteps := 2000000) only [kw0, List.size_toArray, List.length_cons, List.length_nil, Nat.zero_add, Nat.reduceAdd, List.range_succ, List.range_zero, List.nil_append, List.cons_append, List.getElem?_toArray, List.getElem?_cons_zero, Go.Ab.put, ↓opK_some, ↓guK_none, kw1, roOf, aop, ev, t24, ↓roK_ok, List.getElem?_cons_succ, upd, Nat.reduceEqDiff, ↓reduceIte, t14, ty1, Option.map_some, aBin, aBinI, hd2, ↓gdK_true, aInt, m2, Int.toNat_natCast, aload, ty0, rdCells, hbl, Nat.le_refl, and_self, hgb, AV.cells.eq_2, List.drop_zero, List.take_succ_cons, List.take_nil, Bool.not_true, ↓gdK_false, ofV, true_and]
              refine ⟨by omega, ?_⟩
              refine walk hmix TOk.nil [] 3000 0 (by kernel_rfl) ?_
              simp (maxSteps := 2000000) only [kw0]
              rw [wrapL (n := (j : Int) + 1) (by omega) (by omega)]
              exact ih (m - 1) (by omega) _ _ ⟨j + 1, by omega, m2, t14.trans hfj.symm, rfl⟩
            · have hd2 : decide ((j : Int) < (F.length : Int)) = false := by simp; omega
              refine walk hmix TOk.nil [] 3000 0 (by kernel_rfl) ?_
              simp (maxSteps := 2000000) only [kw0, List.size_toArray, List.length_cons, List.length_nil, Nat.zero_add, Nat.reduceAdd, List.range_succ, List.range_zero, List.nil_append, List.cons_append, List.getElem?_toArray, List.getElem?_cons_zero, Go.Ab.put, ↓opK_some, ↓guK_none, kw1, roOf, aop, ev, t24, ↓roK_ok, List.getElem?_cons_succ, upd, Nat.reduceEqDiff, ↓reduceIte, t14, hfl, Option.map_some, aBin, aBinI, hd2, ↓gdK_false, exitTo, beq_self_eq_true, reduceCtorEq, or_false, ↓exK_some, ofV, or_true, true_and]
              exact ⟨_, rfl, done_pur rfl rfl⟩
end Go.Ab.Pd
