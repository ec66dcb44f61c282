/- One of the texts that this claim stands on. -/
import Derived.Test.YtfiglmdmnfdldaaGreatDoorEv20
import Derived.Test.YtfiglmdmnfdldaaGreatDoorEv8
import Derived.IntWalk
set_option linter.unusedVariables false
set_option linter.unusedSimpArgs false
set_option linter.unusedSimpArgs false
set_option linter.unusedVariables false
namespace Go.Ab.Pd
open Go.Proofs
abbrev I (n : Int) : AV := .c (.int .i64 n)
abbrev B (b : Bool) : AV := .c (.bool b)
def tab0 : List AV := [0, 1, 56, 2, 57, 49, 28, 3, 61, 58, 42, 50, 38, 29, 17, 4, 62, 47, 59, 36, 45, 43, 51, 22, 53, 39, 33, 30, 24, 18, 12, 5, 63, 55, 48, 27, 60, 41, 37, 16, 46, 35, 44, 21, 52, 32, 23, 11, 54, 26, 40, 15, 34, 20, 31, 10, 25, 14, 19, 9, 13, 8, 7, 6].map fun n => .c (.int .u8 n)
def GG : Gl := fun g => match g with
  | 0 => some tab0
  | _ => none
theorem hmix : Tryz.prog.follows .mixedOrders = true := by kernel_rfl
theorem ggp : GPure GG := fun g cs h => by
  unfold GG at h
  split at h
  · cases h; rfl
  · cases h
theorem beq_eq_decide' (a b : Int) : (a == b) = decide (a = b) := by by_cases h : a = b <;> simp [h]
theorem bne_eq_decide' (a b : Int) : (a != b) = decide (a ≠ b) := by by_cases h : a = b <;> simp [h]
theorem wrapL {n : Int} (h1 : -9223372036854775808 ≤ n) (h2 : n < 9223372036854775808) : IntKind.i64.wrap n = n := wrap_i64 (by omega) (by omega)
theorem done_pur {H : List AO} {v a : AV} (h : v.pur = true) (e : v = a) : ∃ n, frz n H v = some a := ⟨1, by subst e; simp [frz, h]⟩
def okD (a b c : Int) : Prop := (1 ≤ a ∧ a ≤ 16) ∧ (1 ≤ b ∧ b ≤ 16) ∧ (1 ≤ c ∧ c ≤ 16)
instance (a b c : Int) : Decidable (okD a b c) := by unfold okD; infer_instance
def chk (a b c : Int) : Int := if okD a b c then 0 else 8
theorem ok55 : codeOk 16 (Tryz.f55.body.getD .skip) = true := by kernel_rfl
theorem ro55 : resOk 16 Tryz.f55.results = true := by kernel_rfl
theorem dr55 : todoDr [] [.code (Tryz.f55.body.getD .skip)] = true := by kernel_rfl
set_option maxHeartbeats 4000000 in
set_option maxRecDepth 400000 in
theorem check_pur (a b c : Int) : Pur Tryz.prog GG 55 [.agg [I a, I b, I c]] (I (chk a b c)) := by
  refine Pur.of_alone ggp (by first | rfl | (simp [AV.purL, AV.pur]; done) | (simp [AV.purL, AV.pur, frS_pur (purL_map IA _ (fun _ => rfl)), purL_map U _ (fun _ => rfl)]; done) | (simp [AV.purL, AV.pur, *]; done)) (AC.of_body (c := (Tryz.f55.body.getD .skip)) Tryz.func55 rfl (by decide) ok55 ro55 (by exact (by decide : 1 ≤ 16)) ?_)
  refine walk hmix TOk.nil [] 3000 5 dr55 ?_
  delta Tryz.f55
  simp only [Option.getD_some]
  simp (maxSteps := 2000000) only [resA, resL, resVar, Option.some.injEq, kw0, List.size_toArray, List.length_cons, List.length_nil, Nat.zero_add, Nat.reduceAdd, List.range_succ, List.range_zero, List.nil_append, List.cons_append, List.getElem?_toArray, List.getElem?_cons_zero, Go.Ab.put, ↓opK_some, ↓guK_none, kw1, roOf, aop, ev, argTs, List.getD_cons_zero, AV.isEl.eq_2, ↓reduceIte, AV.cells.eq_1, ↓roK_ok, List.getElem?_cons_succ, ofV, aload, ty0, rdCells, upd, Nat.reduceEqDiff, Nat.le_refl, List.drop_zero, List.take_succ_cons, List.take_nil, Option.map_some, aBin, aBinI, Int.reduceLT, decide_true, ↓gdK_true, aInt, aIdx, Int.reduceLE, Int.cast_ofNat_Int, and_self, aPart, Int.toNat_zero, Nat.reduceMul, ↓guK_some, Option.bind_some, ↓tmK_some, ↓gsK_dec, ↓gsK_true, pickA, cond_true, reduceCtorEq, or_true, true_and, beq_self_eq_true, ↓gsK_false, cond_false, ↓gdK_dec, Int.zero_add, Int.reduceNeg, wrapL, Int.toNat_one, Int.reduceAdd, Int.reduceToNat, decide_false, ↓gdK_false, exitTo, or_false, ↓exK_some]
  unfold chk
  repeat' (first | apply And.intro | intro _)
  all_goals
    refine ⟨_, rfl, done_pur rfl ?_⟩
    simp only [AV.c.injEq, Value.int.injEq, true_and]
    first | (rw [if_pos (by unfold okD; omega)]) | (rw [if_neg (by unfold okD; omega)])
def g55 : List AV → Option (Prop × AV)
  | [.agg [(.c (.int .i64 a)), (.c (.int .i64 b)), (.c (.int .i64 c))]] => some (True, I (chk a b c))
  | _ => none
theorem g55_ok : ∀ args p, g55 args = some p → p.1 → Pur Tryz.prog GG 55 args p.2 := by
  intro args p hp hc
  unfold g55 at hp
  split at hp
  · cases hp
    exact check_pur _ _ _
  · cases hp
def T0 : Tab := Tab.ext Tab.nil 55 g55
theorem T0_ok : TOk Tryz.prog GG T0 := TOk.ext TOk.nil g55_ok
def manyV (a b c : Int) : Int := if okD a b c then a * b * c else 0
theorem okD_mul {a b c : Int} (h : okD a b c) : 0 ≤ a * b ∧ a * b ≤ 256 ∧ 0 ≤ a * b * c ∧ a * b * c ≤ 4096 := by
  unfold okD at h
  obtain ⟨⟨h1, h2⟩, ⟨h3, h4⟩, h5, h6⟩ := h
  have m1 : 0 ≤ a * b := Int.mul_nonneg (by omega) (by omega)
  have m2 : a * b ≤ 16 * 16 := Int.mul_le_mul h2 h4 (by omega) (by omega)
  have m3 : 0 ≤ a * b * c := Int.mul_nonneg m1 (by omega)
  have m4 : a * b * c ≤ 256 * 16 := Int.mul_le_mul (by omega) h6 (by omega) (by omega)
  omega
theorem chk_ok {a b c : Int} : chk a b c = 0 ↔ okD a b c := by unfold chk; split <;> simp_all
theorem chk_no {a b c : Int} (h : ¬okD a b c) : chk a b c = 8 := by unfold chk; rw [if_neg h]
theorem ok22 : codeOk 18 (Tryz.f22.body.getD .skip) = true := by kernel_rfl
theorem ro22 : resOk 18 Tryz.f22.results = true := by kernel_rfl
theorem dr22 : todoDr [] [.code (Tryz.f22.body.getD .skip)] = true := by kernel_rfl
set_option maxHeartbeats 4000000 in
set_option maxRecDepth 400000 in
theorem many_pur (a b c : Int) : Pur Tryz.prog GG 22 [.agg [I a, I b, I c]] (.tup [I (manyV a b c), I (chk a b c)]) := by
  refine Pur.of_alone ggp (by first | rfl | (simp [AV.purL, AV.pur]; done) | (simp [AV.purL, AV.pur, frS_pur (purL_map IA _ (fun _ => rfl)), purL_map U _ (fun _ => rfl)]; done) | (simp [AV.purL, AV.pur, *]; done)) (AC.of_body (c := (Tryz.f22.body.getD .skip)) Tryz.func22 rfl (by decide) ok22 ro22 (by exact (by decide : 1 ≤ 18)) ?_)
  refine walk hmix T0_ok [] 3000 0 dr22 ?_
  delta Tryz.f22
  simp only [Option.getD_some]
  simp (maxSteps := 2000000) only [T0, resA, resL, resVar, Option.some.injEq, kw0, List.size_toArray, List.length_cons, List.length_nil, Nat.zero_add, Nat.reduceAdd, List.range_succ, List.range_zero, List.nil_append, List.cons_append, List.getElem?_toArray, List.getElem?_cons_zero, Go.Ab.put, ↓opK_some, ↓guK_none, kw1, roOf, aop, ev, argTs, List.getD_cons_zero, AV.isEl.eq_2, ↓reduceIte, AV.cells.eq_1, ↓roK_ok, List.getElem?_cons_succ, ofV, aload, ty0, rdCells, upd, Nat.reduceEqDiff, Nat.le_refl, List.drop_zero, List.take_succ_cons, List.take_nil, Option.map_some, tcall, Tab.ext, g55, List.map_cons, List.map_nil, List.append_nil, aBin, aBinI, bne_eq_decide', ne_eq, decide_not, ↓gdK_not, ↓gdK_dec, Bool.not_true, aInt, Int.reduceLE, Int.reduceLT, and_self, ptrAdd, Int.toNat_zero, Nat.reduceMul, Nat.add_zero, Nat.reduceLeDiff, List.take_zero, Int.toNat_one, List.drop_succ_cons, Int.reduceToNat, reduceCtorEq, or_true, true_and, Bool.not_false]
  refine ⟨fun h => ⟨_, rfl, done_pur rfl ?_⟩, fun h => ⟨_, rfl, done_pur rfl ?_⟩⟩
  · have hk := chk_ok.1 h
    have hm := okD_mul hk
    rw [wrapL (n := a * b) (by omega) (by omega), wrapL (by omega) (by omega), h, manyV, if_pos hk]
  · rw [manyV, if_neg (fun hk => h (chk_ok.2 hk))]
def g22 : List AV → Option (Prop × AV)
  | [.agg [(.c (.int .i64 a)), (.c (.int .i64 b)), (.c (.int .i64 c))]] => some (True, .tup [I (manyV a b c), I (chk a b c)])
  | _ => none
theorem g22_ok : ∀ args p, g22 args = some p → p.1 → Pur Tryz.prog GG 22 args p.2 := by
  intro args p hp hc
  unfold g22 at hp
  split at hp
  · cases hp
    exact many_pur _ _ _
  · cases hp
def T1 : Tab := Tab.ext T0 22 g22
theorem T1_ok : TOk Tryz.prog GG T1 := TOk.ext T0_ok g22_ok
theorem ok77 : codeOk 4 (Tryz.f77.body.getD .skip) = true := by kernel_rfl
theorem ro77 : resOk 4 Tryz.f77.results = true := by kernel_rfl
theorem dr77 : todoDr [] [.code (Tryz.f77.body.getD .skip)] = true := by kernel_rfl
set_option maxHeartbeats 4000000 in
set_option maxRecDepth 400000 in
theorem strides_pur (a b c : Int) : Pur Tryz.prog GG 77 [.agg [I a, I b, I c]] (.fn 104 [] [.iptr [I a, I b, I c] 0]) := by
  refine Pur.of_alone ggp (by first | rfl | (simp [AV.purL, AV.pur]; done) | (simp [AV.purL, AV.pur, frS_pur (purL_map IA _ (fun _ => rfl)), purL_map U _ (fun _ => rfl)]; done) | (simp [AV.purL, AV.pur, *]; done)) (AC.of_body (c := (Tryz.f77.body.getD .skip)) Tryz.func77 rfl (by decide) ok77 ro77 (by exact (by decide : 1 ≤ 4)) ?_)
  refine walk hmix T1_ok [] 3000 0 dr77 ?_
  delta Tryz.f77
  simp only [Option.getD_some]
  simp (maxSteps := 2000000) only [T1, T0, resA, resL, resVar, Option.some.injEq, kw0, List.size_toArray, List.length_cons, List.length_nil, Nat.zero_add, Nat.reduceAdd, List.range_succ, List.range_zero, List.nil_append, List.cons_append, List.getElem?_toArray, List.getElem?_cons_zero, Go.Ab.put, ↓opK_some, ↓guK_none, kw1, roOf, aop, ev, argTs, List.getD_cons_zero, AV.isEl.eq_2, ↓reduceIte, AV.cells.eq_1, ↓roK_ok, List.getElem?_cons_succ, ofV, List.map_nil, List.map_cons, upd, Nat.reduceEqDiff, reduceCtorEq, or_true, true_and]
  exact ⟨_, rfl, 3, rfl⟩
def g77 : List AV → Option (Prop × AV)
  | [.agg [(.c (.int .i64 a)), (.c (.int .i64 b)), (.c (.int .i64 c))]] => some (True, .fn 104 [] [.iptr [I a, I b, I c] 0])
  | _ => none
theorem g77_ok : ∀ args p, g77 args = some p → p.1 → Pur Tryz.prog GG 77 args p.2 := by
  intro args p hp hc
  unfold g77 at hp
  split at hp
  · cases hp
    exact strides_pur _ _ _
  · cases hp
def T2 : Tab := Tab.ext T1 77 g77
theorem T2_ok : TOk Tryz.prog GG T2 := TOk.ext T1_ok g77_ok
def after (id : Nat) (args : List AV) (K : AV → List AO → Prop) (next : List AO → Prop) (H : List AO) : Prop := AY Tryz.prog GG id args H fun v H1 => (v = B false → K (.tup []) H1) ∧ (v = B true → next H1) ∧ ∃ b, v = B b
theorem ok104 : codeOk 20 (Tryz.f104.body.getD .skip) = true := by kernel_rfl
theorem ro104 : resOk 20 Tryz.f104.results = true := by kernel_rfl
theorem dr104 : todoDr [] [.code (Tryz.f104.body.getD .skip)] = true := by kernel_rfl
set_option maxHeartbeats 4000000 in
set_option maxRecDepth 400000 in
theorem strides1 {a b c : Int} (hd : okD a b c) {id : Nat} {H : List AO} {K : AV → List AO → Prop}
    (h : after id [I 0, I 1] K (after id [I 1, I a] K (after id [I 2, I (a * b)] K (K (.tup [])))) H) : AC Tryz.prog GG 104 [.yld id, .iptr [I a, I b, I c] 0] H K := by
  refine AC.of_body (c := (Tryz.f104.body.getD .skip)) Tryz.func104 rfl (by decide) ok104 ro104 (by exact (by decide : 2 ≤ 20)) ?_
  refine walk hmix TOk.nil [] 3000 4 dr104 ?_
  delta Tryz.f104
  simp only [Option.getD_some]
  simp (maxSteps := 2000000) only [resA, resL, Option.some.injEq, kw0, List.size_toArray, List.length_cons, List.length_nil, Nat.zero_add, Nat.reduceAdd, List.range_succ, List.range_zero, List.nil_append, List.cons_append, List.getElem?_toArray, List.getElem?_cons_zero, Go.Ab.put, ↓opK_some, ↓guK_none, kw1, roOf, aop, ev, ofV, ↓roK_ok, List.getElem?_cons_succ, upd, Nat.reduceEqDiff, ↓reduceIte, aBin, aBinI, Int.reduceLT, decide_true, Option.map_some, ↓guK_some, Option.bind_some, ↓tmK_some, ↓gsK_true, beq_self_eq_true, reduceCtorEq, argTs, List.getD_cons_zero, tcall, List.map_cons, List.map_nil, ↓roK_call, true_and]
  have hm := okD_mul hd
  have hd' := hd
  unfold okD at hd'
  refine ACV.mono (callee := .yld id) h ?_
  rintro v H1 ⟨hf, ht, q, rfl⟩
  cases q
  · have hK := hf rfl
    refine walk hmix TOk.nil [] 3000 0 (by kernel_rfl) ?_
    simp (maxSteps := 2000000) only [kw0, List.getElem?_toArray, List.getElem?_cons_succ, List.getElem?_cons_zero, Go.Ab.put, ↓opK_some, ↓guK_none, kw1, roOf, aop, ev, upd, Nat.reduceEqDiff, ↓reduceIte, pickA, ofV, cond_true, ↓roK_ok, ↓gdK_false, exitTo, beq_self_eq_true, reduceCtorEq, or_false, ↓exK_some, sy_nil, true_and]
    first | exact ⟨_, rfl, hK⟩ | exact ⟨.inl rfl, _, rfl, hK⟩ | exact ⟨.inr rfl, _, rfl, hK⟩
  · have hn := ht rfl
    refine walk hmix TOk.nil [] 3000 1 (by kernel_rfl) ?_
    simp (maxSteps := 2000000) only [kw0, List.getElem?_toArray, List.getElem?_cons_succ, List.getElem?_cons_zero, Go.Ab.put, ↓opK_some, ↓guK_none, kw1, roOf, aop, ev, upd, Nat.reduceEqDiff, ↓reduceIte, pickA, ofV, cond_true, ↓roK_ok, ↓gdK_true, List.size_toArray, List.length_cons, List.length_nil, Nat.zero_add, Nat.reduceAdd, List.range_succ, List.range_zero, List.nil_append, List.cons_append, aInt, argTs, List.getD_cons_succ, List.getD_cons_zero, ty0, Int.reduceLE, Int.reduceLT, and_self, ptrAdd, Int.toNat_zero, Nat.reduceMul, Nat.add_zero, Option.map_some, aload, rdCells, Nat.reduceLeDiff, List.drop_zero, List.take_succ_cons, List.take_zero, aBin, aBinI, Int.zero_add, Int.reduceNeg, wrapL, decide_true, ↓guK_some, Option.bind_some, ↓tmK_some, ↓gsK_true, beq_self_eq_true, reduceCtorEq, tcall, List.map_cons, List.map_nil, ↓roK_call, true_and]
    rw [show IntKind.i64.wrap (1 * a) = a by rw [Int.one_mul]; exact wrapL (by omega) (by omega)]
    refine ACV.mono (callee := .yld id) hn ?_
    rintro v H2 ⟨hf, ht, q, rfl⟩
    cases q
    · have hK := hf rfl
      refine walk hmix TOk.nil [] 3000 0 (by kernel_rfl) ?_
      simp (maxSteps := 2000000) only [kw0, List.getElem?_toArray, List.getElem?_cons_succ, List.getElem?_cons_zero, Go.Ab.put, ↓opK_some, ↓guK_none, kw1, roOf, aop, ev, upd, Nat.reduceEqDiff, ↓reduceIte, pickA, ofV, cond_true, ↓roK_ok, ↓gdK_false, exitTo, beq_self_eq_true, reduceCtorEq, or_false, ↓exK_some, sy_nil, true_and]
      first | exact ⟨_, rfl, hK⟩ | exact ⟨.inl rfl, _, rfl, hK⟩ | exact ⟨.inr rfl, _, rfl, hK⟩
    · have hn := ht rfl
      refine walk hmix TOk.nil [] 3000 1 (by kernel_rfl) ?_
      simp (maxSteps := 2000000) only [kw0, List.getElem?_toArray, List.getElem?_cons_succ, List.getElem?_cons_zero, Go.Ab.put, ↓opK_some, ↓guK_none, kw1, roOf, aop, ev, upd, Nat.reduceEqDiff, ↓reduceIte, pickA, ofV, cond_true, ↓roK_ok, ↓gdK_true, List.size_toArray, List.length_cons, List.length_nil, Nat.zero_add, Nat.reduceAdd, List.range_succ, List.range_zero, List.nil_append, List.cons_append, aInt, argTs, List.getD_cons_succ, List.getD_cons_zero, ty0, Int.reduceLE, Int.reduceLT, and_self, ptrAdd, Int.toNat_one, Nat.reduceMul, Option.map_some, aload, rdCells, Nat.reduceLeDiff, List.drop_succ_cons, List.drop_zero, List.take_succ_cons, List.take_zero, aBin, aBinI, Int.reduceAdd, Int.reduceNeg, wrapL, decide_true, ↓guK_some, Option.bind_some, ↓tmK_some, ↓gsK_true, beq_self_eq_true, reduceCtorEq, tcall, List.map_cons, List.map_nil, ↓roK_call, true_and]
      rw [wrapL (n := a * b) (by omega) (by omega)]
      refine ACV.mono (callee := .yld id) hn ?_
      rintro v H3 ⟨hf, ht, q, rfl⟩
      have hK : K (.tup []) H3 := by cases q <;> first | exact hf rfl | exact ht rfl
      cases q
      · refine walk hmix TOk.nil [] 3000 0 (by kernel_rfl) ?_
        simp (maxSteps := 2000000) only [kw0, List.getElem?_toArray, List.getElem?_cons_succ, List.getElem?_cons_zero, Go.Ab.put, ↓opK_some, ↓guK_none, kw1, roOf, aop, ev, upd, Nat.reduceEqDiff, ↓reduceIte, pickA, ofV, cond_true, ↓roK_ok, ↓gdK_false, exitTo, beq_self_eq_true, reduceCtorEq, or_false, ↓exK_some, sy_nil, true_and]
        first | exact ⟨_, rfl, hK⟩ | exact ⟨.inl rfl, _, rfl, hK⟩ | exact ⟨.inr rfl, _, rfl, hK⟩
      · refine walk hmix TOk.nil [] 3000 1 (by kernel_rfl) ?_
        simp (maxSteps := 2000000) only [kw0, List.getElem?_toArray, List.getElem?_cons_succ, List.getElem?_cons_zero, Go.Ab.put, ↓opK_some, ↓guK_none, kw1, roOf, aop, ev, upd, Nat.reduceEqDiff, ↓reduceIte, pickA, ofV, cond_true, ↓roK_ok, ↓gdK_true, List.size_toArray, List.length_cons, List.length_nil, Nat.zero_add, Nat.reduceAdd, List.range_succ, List.range_zero, List.nil_append, List.cons_append, aInt, argTs, List.getD_cons_succ, List.getD_cons_zero, ty0, Int.reduceLE, Int.reduceLT, and_self, ptrAdd, Int.reduceToNat, Nat.reduceMul, Option.map_some, aload, rdCells, Nat.le_refl, List.drop_succ_cons, List.drop_zero, List.take_succ_cons, List.take_nil, aBin, aBinI, Int.reduceAdd, Int.reduceNeg, wrapL, decide_false, ↓guK_some, Option.bind_some, ↓tmK_some, ↓gsK_false, cond_false, ↓gdK_false, exitTo, beq_self_eq_true, reduceCtorEq, or_false, ↓exK_some, sy_nil, true_and]
        first | exact ⟨_, rfl, hK⟩ | exact ⟨.inl rfl, _, rfl, hK⟩ | exact ⟨.inr rfl, _, rfl, hK⟩
end Go.Ab.Pd

set_option linter.unusedSimpArgs false
set_option linter.unusedVariables false
namespace Go.Ab.Pd
open Go.Proofs
theorem tq {m x y : Int} (h : 0 ≤ m) (hx : 0 < x) (hm : m < 9223372036854775808) : (IntKind.i64.wrap (m.tdiv x)).tmod y = m / x % y := by
  have e : m.tdiv x = m / x := Int.tdiv_eq_ediv_of_nonneg h
  have h1 : 0 ≤ m / x := Int.ediv_nonneg h (by omega)
  have h2 : m / x ≤ m := Int.ediv_le_self _ h
  rw [e, wrapL (by omega) (by omega), Int.tmod_eq_emod_of_nonneg h1]
def inM (a b c m : Int) : Prop := okD a b c ∧ 0 ≤ m ∧ m < a * b * c
instance (a b c m : Int) : Decidable (inM a b c m) := by unfold inM; infer_instance
def ofX (a b c m : Int) : Int := if inM a b c m then m % a else 0
def ofY (a b c m : Int) : Int := if inM a b c m then m / a % b else 0
def ofZ (a b c m : Int) : Int := if inM a b c m then m / (a * b) % c else 0
def ofE (a b c m : Int) : Int := if okD a b c then (if 0 ≤ m ∧ m < a * b * c then 0 else 2) else 8
theorem ok93 : codeOk 42 (Tryz.f93.body.getD .skip) = true := by kernel_rfl
theorem ro93 : resOk 42 Tryz.f93.results = true := by kernel_rfl
theorem dr93 : todoDr [] [.code (Tryz.f93.body.getD .skip)] = true := by kernel_rfl
set_option maxHeartbeats 4000000 in
set_option maxRecDepth 400000 in
theorem of_pur (a b c m : Int) : Pur Tryz.prog GG 93 [.agg [I a, I b, I c], I m] (.tup [.agg [I (ofX a b c m), I (ofY a b c m), I (ofZ a b c m)], I (ofE a b c m)]) := by
  refine Pur.of_alone ggp (by first | rfl | (simp [AV.purL, AV.pur]; done) | (simp [AV.purL, AV.pur, frS_pur (purL_map IA _ (fun _ => rfl)), purL_map U _ (fun _ => rfl)]; done) | (simp [AV.purL, AV.pur, *]; done)) (AC.of_body (c := (Tryz.f93.body.getD .skip)) Tryz.func93 rfl (by decide) ok93 ro93 (by exact (by decide : 2 ≤ 42)) ?_)
  refine walk hmix T2_ok [] 3000 0 dr93 ?_
  delta Tryz.f93
  simp only [Option.getD_some]
  simp (maxSteps := 2000000) only [T2, T1, T0, resA, resL, resVar, aload, ty0, rdCells, kw0, List.size_toArray, List.length_cons, List.length_nil, Nat.zero_add, Nat.reduceAdd, List.range_succ, List.range_zero, List.nil_append, List.cons_append, List.getElem?_toArray, List.getElem?_cons_zero, Go.Ab.put, ↓opK_some, ↓guK_none, kw1, roOf, aop, ev, argTs, List.getD_cons_zero, AV.isEl.eq_2, ↓reduceIte, AV.cells.eq_1, ↓roK_ok, List.getElem?_cons_succ, upd, Nat.reduceEqDiff, List.getD_cons_succ, AV.cells.eq_2, ofV, Nat.le_refl, List.drop_zero, List.take_succ_cons, List.take_nil, Option.map_some, tcall, Tab.ext, g22, List.map_cons, List.map_nil, List.append_nil, aBin, aBinI, bne_eq_decide', ne_eq, decide_not, ↓gdK_not, ↓gdK_dec, Bool.not_true, ↓guK_some, Option.bind_some, ↓tmK_some, ↓gsK_dec, ↓gsK_true, pickA, cond_true, ↓gdK_true, astore, and_self, wrCells, splice, List.take_zero, List.drop_succ_cons, List.drop_nil, List.set_cons_succ, List.set_cons_zero, reduceCtorEq, or_true, Option.some.injEq, true_and, beq_self_eq_true, ↓gsK_false, cond_false, g77, Bool.not_false]
  refine ⟨fun h => ?_, fun h => ⟨_, rfl, done_pur rfl ?_⟩⟩
  · have hk := chk_ok.1 h
    have hm := okD_mul hk
    have hk' := hk
    unfold okD at hk'
    have hmany : manyV a b c = a * b * c := by rw [manyV, if_pos hk]
    refine ⟨fun h1 => ⟨_, rfl, done_pur rfl ?_⟩, fun h1 => ⟨fun h2 => ⟨_, rfl, done_pur rfl ?_⟩, fun h2 => ?_⟩⟩
    · rw [ofX, ofY, ofZ, ofE, if_neg (fun hh => by have := hh.2; omega), if_neg (fun hh => by have := hh.2; omega), if_neg (fun hh => by have := hh.2; omega), if_pos hk, if_neg (by omega)]
    · rw [hmany] at h2
      rw [ofX, ofY, ofZ, ofE, if_neg (fun hh => by have := hh.2; omega), if_neg (fun hh => by have := hh.2; omega), if_neg (fun hh => by have := hh.2; omega), if_pos hk, if_neg (by omega)]
    · rw [hmany] at h2
      refine FW.rangeFunc ?_
      simp (maxSteps := 2000000) only [ACV, ev, upd, ↓reduceIte, List.length_cons, List.length_nil, Nat.zero_add, Nat.reduceAdd, List.cons_append, List.nil_append, ne_eq]
      have hab : 0 < a * b := Int.mul_pos (by omega) (by omega)
      have hab' : ¬a * b = 0 := by omega
      refine strides1 hk ?_
      refine AY.of_loop rfl rfl ?_
      refine walk hmix T2_ok [] 3000 0 (by kernel_rfl) ?_
      simp (maxSteps := 2000000) only [T2, T1, T0, parTs, kw0, List.size_toArray, List.length_cons, List.length_nil, Nat.zero_add, List.range_succ, List.range_zero, List.nil_append, List.getElem?_toArray, List.getElem?_cons_zero, Go.Ab.put, ↓opK_some, ↓guK_none, kw1, roOf, aop, ev, upd, Nat.reduceEqDiff, ↓reduceIte, ↓roK_ok, true_and]
      refine FW.beginRound rfl rfl ?_
      simp (maxSteps := 2000000) only [List.set_cons_succ, List.set_cons_zero]
      refine walk hmix T2_ok [] 3000 0 (by kernel_rfl) ?_
      simp (maxSteps := 2000000) only [T2, T1, T0, kw0, List.contains_nil, List.size_toArray, List.length_cons, List.length_nil, Nat.zero_add, Nat.reduceAdd, List.range_succ, List.range_zero, List.nil_append, List.cons_append, kw1, List.getElem?_toArray, List.getElem?_cons_zero, Go.Ab.put, ↓opK_some, ↓guK_none, roOf, aop, ev, upd, Nat.reduceEqDiff, ↓reduceIte, ↓roK_ok, List.getElem?_cons_succ, aload, ty0, rdCells, Nat.le_refl, List.drop_zero, List.take_succ_cons, List.take_nil, Option.map_some, aBin, aBinI, ne_eq, Int.reduceEq, not_false_eq_true, aInt, Int.reduceLE, Int.reduceLT, and_self, ptrAdd, Int.toNat_zero, Nat.reduceMul, Nat.add_zero, Nat.reduceLeDiff, List.take_zero, astore, AV.isEl.eq_2, AV.cells.eq_2, wrCells, splice, List.drop_succ_cons, List.set_cons_succ, List.set_cons_zero, symR_nil, sy_nil, Option.some.injEq, true_and]
      refine ⟨by omega, ⟨rfl, _, rfl, ⟨fun h0 => (by cases h0), fun _ => ?_, _, rfl⟩⟩⟩
      refine AY.of_loop rfl rfl ?_
      refine walk hmix T2_ok [] 3000 0 (by kernel_rfl) ?_
      simp (maxSteps := 2000000) only [T2, T1, T0, parTs, kw0, List.size_toArray, List.length_cons, List.length_nil, Nat.zero_add, List.range_succ, List.range_zero, List.nil_append, List.getElem?_toArray, List.getElem?_cons_zero, Go.Ab.put, ↓opK_some, ↓guK_none, kw1, roOf, aop, ev, upd, Nat.reduceEqDiff, ↓reduceIte, ↓roK_ok, true_and]
      refine FW.beginRound rfl rfl ?_
      simp (maxSteps := 2000000) only [List.set_cons_succ, List.set_cons_zero]
      refine walk hmix T2_ok [] 3000 0 (by kernel_rfl) ?_
      simp (maxSteps := 2000000) only [T2, T1, T0, kw0, List.contains_nil, List.size_toArray, List.length_cons, List.length_nil, Nat.zero_add, Nat.reduceAdd, List.range_succ, List.range_zero, List.nil_append, List.cons_append, kw1, List.getElem?_toArray, List.getElem?_cons_zero, Go.Ab.put, ↓opK_some, ↓guK_none, roOf, aop, ev, upd, Nat.reduceEqDiff, ↓reduceIte, ↓roK_ok, List.getElem?_cons_succ, aload, ty0, rdCells, Nat.le_refl, List.drop_zero, List.take_succ_cons, List.take_nil, Option.map_some, aBin, aBinI, ne_eq, aInt, Int.reduceLE, Int.reduceLT, and_self, ptrAdd, Int.toNat_one, Nat.reduceMul, Nat.reduceLeDiff, List.drop_succ_cons, List.take_zero, astore, AV.isEl.eq_2, AV.cells.eq_2, wrCells, splice, List.set_cons_succ, List.set_cons_zero, symR_nil, sy_nil, Option.some.injEq, true_and]
      refine ⟨by omega, by omega, ⟨rfl, _, rfl, ⟨fun h0 => (by cases h0), fun _ => ?_, _, rfl⟩⟩⟩
      refine AY.of_loop rfl rfl ?_
      refine walk hmix T2_ok [] 3000 0 (by kernel_rfl) ?_
      simp (maxSteps := 2000000) only [T2, T1, T0, parTs, kw0, List.size_toArray, List.length_cons, List.length_nil, Nat.zero_add, List.range_succ, List.range_zero, List.nil_append, List.getElem?_toArray, List.getElem?_cons_zero, Go.Ab.put, ↓opK_some, ↓guK_none, kw1, roOf, aop, ev, upd, Nat.reduceEqDiff, ↓reduceIte, ↓roK_ok, true_and]
      refine FW.beginRound rfl rfl ?_
      simp (maxSteps := 2000000) only [List.set_cons_succ, List.set_cons_zero]
      refine walk hmix T2_ok [] 3000 0 (by kernel_rfl) ?_
      simp (maxSteps := 2000000) only [T2, T1, T0, kw0, List.contains_nil, List.size_toArray, List.length_cons, List.length_nil, Nat.zero_add, Nat.reduceAdd, List.range_succ, List.range_zero, List.nil_append, List.cons_append, kw1, List.getElem?_toArray, List.getElem?_cons_zero, Go.Ab.put, ↓opK_some, ↓guK_none, roOf, aop, ev, upd, Nat.reduceEqDiff, ↓reduceIte, ↓roK_ok, List.getElem?_cons_succ, aload, ty0, rdCells, Nat.le_refl, List.drop_zero, List.take_succ_cons, List.take_nil, Option.map_some, aBin, aBinI, ne_eq, aInt, Int.reduceLE, Int.reduceLT, and_self, ptrAdd, Int.reduceToNat, Nat.reduceMul, List.drop_succ_cons, astore, AV.isEl.eq_2, AV.cells.eq_2, wrCells, splice, List.take_zero, List.drop_nil, List.append_nil, List.set_cons_succ, List.set_cons_zero, symR_nil, sy_nil, Option.some.injEq, true_and]
      refine ⟨hab', by omega, ⟨rfl, _, rfl, ⟨fun h0 => (by cases h0), fun _ => ?_, _, rfl⟩⟩⟩
      refine ⟨_, rfl, by simp [jumpOf], ?_⟩
      refine walk hmix T2_ok [] 3000 0 (by kernel_rfl) ?_
      simp (maxSteps := 2000000) only [T2, T1, T0, jumpOf, Option.map_none, Option.toList_none, List.nil_append, kw0, List.size_toArray, List.length_cons, List.length_nil, Nat.zero_add, Nat.reduceAdd, List.range_succ, List.range_zero, List.cons_append, List.getElem?_toArray, List.getElem?_cons_zero, Go.Ab.put, ↓opK_some, ↓guK_none, kw1, roOf, aop, aload, ty0, rdCells, ev, upd, Nat.reduceEqDiff, ↓reduceIte, List.getElem?_cons_succ, Nat.le_refl, List.drop_zero, List.take_succ_cons, List.take_nil, Option.map_some, ↓roK_ok, astore, AV.isEl.eq_2, AV.cells.eq_1, and_self, wrCells, splice, List.take_zero, List.drop_succ_cons, List.drop_nil, List.append_nil, List.set_cons_succ, List.set_cons_zero, ofV, reduceCtorEq, or_true, Option.some.injEq, true_and]
      refine ⟨_, rfl, done_pur rfl ?_⟩
      rw [tq (by omega) (by omega) (by omega), tq (by omega) (by omega) (by omega), tq (by omega) (by omega) (by omega), Int.ediv_one, ofX, ofY, ofZ, ofE, if_pos ⟨hk, by omega, by omega⟩, if_pos ⟨hk, by omega, by omega⟩, if_pos ⟨hk, by omega, by omega⟩, if_pos hk, if_pos (by omega)]
  · rw [ofX, ofY, ofZ, ofE, if_neg (fun hk => h (chk_ok.2 hk.1)), if_neg (fun hk => h (chk_ok.2 hk.1)), if_neg (fun hk => h (chk_ok.2 hk.1)), if_neg (fun hk => h (chk_ok.2 hk)), chk_no (fun hk => h (chk_ok.2 hk))]
def g93 : List AV → Option (Prop × AV)
  | [.agg [(.c (.int .i64 a)), (.c (.int .i64 b)), (.c (.int .i64 c))], (.c (.int .i64 m))] => some (True, .tup [.agg [I (ofX a b c m), I (ofY a b c m), I (ofZ a b c m)], I (ofE a b c m)])
  | _ => none
theorem g93_ok : ∀ args p, g93 args = some p → p.1 → Pur Tryz.prog GG 93 args p.2 := by
  intro args p hp hc
  unfold g93 at hp
  split at hp
  · cases hp
    exact of_pur _ _ _ _
  · cases hp
def T3 : Tab := Tab.ext T2 93 g93
theorem T3_ok : TOk Tryz.prog GG T3 := TOk.ext T2_ok g93_ok
end Go.Ab.Pd

set_option linter.unusedSimpArgs false
set_option linter.unusedVariables false
namespace Go.Ab.Pd
open Go.Proofs
def okP (a b c x y z : Int) : Prop := (0 ≤ x ∧ x < a) ∧ (0 ≤ y ∧ y < b) ∧ (0 ≤ z ∧ z < c)
instance (a b c x y z : Int) : Decidable (okP a b c x y z) := by unfold okP; infer_instance
def atV (a b c x y z : Int) : Int := if okD a b c ∧ okP a b c x y z then x + a * y + a * b * z else 0
def atE (a b c x y z : Int) : Int := if okD a b c then (if okP a b c x y z then 0 else 2) else 8
theorem at_bound {a b c x y z : Int} (h : okD a b c) (hp : okP a b c x y z) : 0 ≤ a * y ∧ a * y ≤ 240 ∧ 0 ≤ a * b * z ∧ a * b * z ≤ 3840 := by
  have hm := okD_mul h
  unfold okD at h
  unfold okP at hp
  have m1 : 0 ≤ a * y := Int.mul_nonneg (by omega) (by omega)
  have m2 : a * y ≤ 16 * 15 := Int.mul_le_mul (by omega) (by omega) (by omega) (by omega)
  have m3 : 0 ≤ a * b * z := Int.mul_nonneg (by omega) (by omega)
  have m4 : a * b * z ≤ 256 * 15 := Int.mul_le_mul (by omega) (by omega) (by omega) (by omega)
  omega
theorem ok46 : codeOk 37 (Tryz.f46.body.getD .skip) = true := by kernel_rfl
theorem ro46 : resOk 37 Tryz.f46.results = true := by kernel_rfl
theorem dr46 : todoDr [] [.code (Tryz.f46.body.getD .skip)] = true := by kernel_rfl
set_option maxHeartbeats 4000000 in
set_option maxRecDepth 400000 in
theorem at_pur (a b c x y z : Int) : Pur Tryz.prog GG 46 [.agg [I a, I b, I c], .agg [I x, I y, I z]] (.tup [I (atV a b c x y z), I (atE a b c x y z)]) := by
  refine Pur.of_alone ggp (by first | rfl | (simp [AV.purL, AV.pur]; done) | (simp [AV.purL, AV.pur, frS_pur (purL_map IA _ (fun _ => rfl)), purL_map U _ (fun _ => rfl)]; done) | (simp [AV.purL, AV.pur, *]; done)) (AC.of_body (c := (Tryz.f46.body.getD .skip)) Tryz.func46 rfl (by decide) ok46 ro46 (by exact (by decide : 2 ≤ 37)) ?_)
  refine walk hmix T3_ok [] 3000 0 dr46 ?_
  delta Tryz.f46
  simp only [Option.getD_some]
  simp (maxSteps := 2000000) only [T3, T2, T1, T0, resA, resL, resVar, aload, ty0, rdCells, ty1, kw0, List.size_toArray, List.length_cons, List.length_nil, Nat.zero_add, Nat.reduceAdd, List.range_succ, List.range_zero, List.nil_append, List.cons_append, List.getElem?_toArray, List.getElem?_cons_zero, Go.Ab.put, ↓opK_some, ↓guK_none, kw1, roOf, aop, ev, argTs, List.getD_cons_zero, AV.isEl.eq_2, ↓reduceIte, AV.cells.eq_1, ↓roK_ok, List.getElem?_cons_succ, upd, Nat.reduceEqDiff, List.getD_cons_succ, Nat.le_refl, List.drop_zero, List.take_succ_cons, List.take_nil, Option.map_some, tcall, Tab.ext, g55, List.map_cons, List.map_nil, List.append_nil, astore, AV.cells.eq_2, and_self, wrCells, splice, List.take_zero, List.drop_succ_cons, List.drop_nil, List.set_cons_succ, List.set_cons_zero, aBin, ofV, aBinI, bne_eq_decide', ne_eq, decide_not, ↓gdK_not, ↓gdK_dec, Bool.not_true, g77, true_and, Bool.not_false, reduceCtorEq, or_true, Option.some.injEq]
  refine ⟨fun h => ?_, fun h => ⟨_, rfl, done_pur rfl ?_⟩⟩
  · have hk := chk_ok.1 h
    have hm := okD_mul hk
    have hk' := hk
    unfold okD at hk'
    have hab : 0 < a * b := Int.mul_pos (by omega) (by omega)
    refine FW.rangeFunc ?_
    simp (maxSteps := 2000000) only [ACV, ev, upd, ↓reduceIte, List.length_cons, List.length_nil, Nat.zero_add, Nat.reduceAdd, List.cons_append, List.nil_append, ne_eq]
    refine strides1 hk ?_
    refine AY.of_loop rfl rfl ?_
    refine walk hmix T3_ok [] 3000 0 (by kernel_rfl) ?_
    simp (maxSteps := 2000000) only [T3, T2, T1, T0, parTs, kw0, List.size_toArray, List.length_cons, List.length_nil, Nat.zero_add, List.range_succ, List.range_zero, List.nil_append, List.getElem?_toArray, List.getElem?_cons_zero, Go.Ab.put, ↓opK_some, ↓guK_none, kw1, roOf, aop, ev, upd, Nat.reduceEqDiff, ↓reduceIte, ↓roK_ok, true_and]
    refine FW.beginRound rfl rfl ?_
    simp (maxSteps := 2000000) only [List.set_cons_succ, List.set_cons_zero]
    refine walk hmix T3_ok [] 3000 0 (by kernel_rfl) ?_
    simp (maxSteps := 2000000) only [T3, T2, T1, T0, kw0, List.contains_nil, List.size_toArray, List.length_cons, List.length_nil, Nat.zero_add, Nat.reduceAdd, List.range_succ, List.range_zero, List.nil_append, List.cons_append, kw1, List.getElem?_toArray, List.getElem?_cons_zero, Go.Ab.put, ↓opK_some, ↓guK_none, roOf, aop, ev, upd, Nat.reduceEqDiff, ↓reduceIte, ↓roK_ok, List.getElem?_cons_succ, aInt, ty0, Int.reduceLE, Int.reduceLT, and_self, ptrAdd, Int.toNat_zero, Nat.reduceMul, Nat.add_zero, Option.map_some, aload, rdCells, Nat.reduceLeDiff, List.drop_zero, List.take_succ_cons, List.take_zero, aBin, ofV, aBinI, ↓guK_some, Option.bind_some, ↓tmK_some, ↓gsK_dec, ↓gsK_true, pickA, cond_true, symR_nil, ↓gdK_true, astore, AV.isEl.eq_2, AV.cells.eq_2, wrCells, Nat.le_refl, splice, List.drop_succ_cons, List.drop_nil, List.append_nil, List.set_cons_succ, List.set_cons_zero, ty1, Option.some.injEq, true_and, beq_self_eq_true, ↓gsK_false, cond_false, ↓gdK_dec, List.take_nil, Int.zero_add, sy_nil]
    refine ⟨fun h01 => ?_, fun h01 => ⟨fun h02 => ?_, fun h02 => ?_⟩⟩
    · refine ⟨rfl, _, rfl, ⟨fun _ => ?_, fun h0 => (by cases h0), _, rfl⟩⟩
      refine ⟨_, rfl, by simp [jumpOf], ?_⟩
      refine walk hmix T3_ok [] 3000 0 (by kernel_rfl) ?_
      simp (maxSteps := 2000000) only [T3, T2, T1, T0, jumpOf, Option.map_some, Option.toList_some, List.cons_append, List.nil_append, kw0, reduceCtorEq, or_true, upd, Nat.reduceEqDiff, ↓reduceIte, List.getElem?_cons_succ, List.getElem?_cons_zero, Nat.zero_add, List.length_cons, List.length_nil, Nat.le_refl, List.drop_zero, List.take_succ_cons, List.take_nil, Option.some.injEq, true_and]
      refine ⟨_, rfl, done_pur rfl ?_⟩
      rw [atV, atE, if_neg (by unfold okP; omega), if_pos hk, if_neg (by unfold okP; omega)]
    · refine ⟨rfl, _, rfl, ⟨fun _ => ?_, fun h0 => (by cases h0), _, rfl⟩⟩
      refine ⟨_, rfl, by simp [jumpOf], ?_⟩
      refine walk hmix T3_ok [] 3000 0 (by kernel_rfl) ?_
      simp (maxSteps := 2000000) only [T3, T2, T1, T0, jumpOf, Option.map_some, Option.toList_some, List.cons_append, List.nil_append, kw0, reduceCtorEq, or_true, upd, Nat.reduceEqDiff, ↓reduceIte, List.getElem?_cons_succ, List.getElem?_cons_zero, Nat.zero_add, List.length_cons, List.length_nil, Nat.le_refl, List.drop_zero, List.take_succ_cons, List.take_nil, Option.some.injEq, true_and]
      refine ⟨_, rfl, done_pur rfl ?_⟩
      rw [atV, atE, if_neg (by unfold okP; omega), if_pos hk, if_neg (by unfold okP; omega)]
    · refine ⟨rfl, _, rfl, ⟨fun h0 => (by cases h0), fun _ => ?_, _, rfl⟩⟩
      refine AY.of_loop rfl rfl ?_
      refine walk hmix T3_ok [] 3000 0 (by kernel_rfl) ?_
      simp (maxSteps := 2000000) only [T3, T2, T1, T0, parTs, kw0, List.size_toArray, List.length_cons, List.length_nil, Nat.zero_add, List.range_succ, List.range_zero, List.nil_append, List.getElem?_toArray, List.getElem?_cons_zero, Go.Ab.put, ↓opK_some, ↓guK_none, kw1, roOf, aop, ev, upd, Nat.reduceEqDiff, ↓reduceIte, ↓roK_ok, true_and]
      refine FW.beginRound rfl rfl ?_
      simp (maxSteps := 2000000) only [List.set_cons_succ, List.set_cons_zero]
      refine walk hmix T3_ok [] 3000 0 (by kernel_rfl) ?_
      simp (maxSteps := 2000000) only [T3, T2, T1, T0, kw0, List.contains_nil, List.size_toArray, List.length_cons, List.length_nil, Nat.zero_add, Nat.reduceAdd, List.range_succ, List.range_zero, List.nil_append, List.cons_append, kw1, List.getElem?_toArray, List.getElem?_cons_zero, Go.Ab.put, ↓opK_some, ↓guK_none, roOf, aop, ev, upd, Nat.reduceEqDiff, ↓reduceIte, ↓roK_ok, List.getElem?_cons_succ, aInt, ty0, Int.reduceLE, Int.reduceLT, and_self, ptrAdd, Int.toNat_one, Nat.reduceMul, Option.map_some, aload, rdCells, Nat.reduceLeDiff, List.drop_succ_cons, List.drop_zero, List.take_succ_cons, List.take_zero, aBin, ofV, aBinI, ↓guK_some, Option.bind_some, ↓tmK_some, ↓gsK_dec, ↓gsK_true, pickA, cond_true, symR_nil, ↓gdK_true, astore, AV.isEl.eq_2, AV.cells.eq_2, wrCells, Nat.le_refl, splice, List.drop_nil, List.append_nil, List.set_cons_succ, List.set_cons_zero, ty1, Option.some.injEq, true_and, beq_self_eq_true, ↓gsK_false, cond_false, ↓gdK_dec, List.take_nil, sy_nil]
      refine ⟨fun h11 => ?_, fun h11 => ⟨fun h12 => ?_, fun h12 => ?_⟩⟩
      · refine ⟨rfl, _, rfl, ⟨fun _ => ?_, fun h0 => (by cases h0), _, rfl⟩⟩
        refine ⟨_, rfl, by simp [jumpOf], ?_⟩
        refine walk hmix T3_ok [] 3000 0 (by kernel_rfl) ?_
        simp (maxSteps := 2000000) only [T3, T2, T1, T0, jumpOf, Option.map_some, Option.toList_some, List.cons_append, List.nil_append, kw0, reduceCtorEq, or_true, upd, Nat.reduceEqDiff, ↓reduceIte, List.getElem?_cons_succ, List.getElem?_cons_zero, Nat.zero_add, List.length_cons, List.length_nil, Nat.le_refl, List.drop_zero, List.take_succ_cons, List.take_nil, Option.some.injEq, true_and]
        refine ⟨_, rfl, done_pur rfl ?_⟩
        rw [atV, atE, if_neg (by unfold okP; omega), if_pos hk, if_neg (by unfold okP; omega)]
      · refine ⟨rfl, _, rfl, ⟨fun _ => ?_, fun h0 => (by cases h0), _, rfl⟩⟩
        refine ⟨_, rfl, by simp [jumpOf], ?_⟩
        refine walk hmix T3_ok [] 3000 0 (by kernel_rfl) ?_
        simp (maxSteps := 2000000) only [T3, T2, T1, T0, jumpOf, Option.map_some, Option.toList_some, List.cons_append, List.nil_append, kw0, reduceCtorEq, or_true, upd, Nat.reduceEqDiff, ↓reduceIte, List.getElem?_cons_succ, List.getElem?_cons_zero, Nat.zero_add, List.length_cons, List.length_nil, Nat.le_refl, List.drop_zero, List.take_succ_cons, List.take_nil, Option.some.injEq, true_and]
        refine ⟨_, rfl, done_pur rfl ?_⟩
        rw [atV, atE, if_neg (by unfold okP; omega), if_pos hk, if_neg (by unfold okP; omega)]
      · refine ⟨rfl, _, rfl, ⟨fun h0 => (by cases h0), fun _ => ?_, _, rfl⟩⟩
        refine AY.of_loop rfl rfl ?_
        refine walk hmix T3_ok [] 3000 0 (by kernel_rfl) ?_
        simp (maxSteps := 2000000) only [T3, T2, T1, T0, parTs, kw0, List.size_toArray, List.length_cons, List.length_nil, Nat.zero_add, List.range_succ, List.range_zero, List.nil_append, List.getElem?_toArray, List.getElem?_cons_zero, Go.Ab.put, ↓opK_some, ↓guK_none, kw1, roOf, aop, ev, upd, Nat.reduceEqDiff, ↓reduceIte, ↓roK_ok, true_and]
        refine FW.beginRound rfl rfl ?_
        simp (maxSteps := 2000000) only [List.set_cons_succ, List.set_cons_zero]
        refine walk hmix T3_ok [] 3000 0 (by kernel_rfl) ?_
        simp (maxSteps := 2000000) only [T3, T2, T1, T0, kw0, List.contains_nil, List.size_toArray, List.length_cons, List.length_nil, Nat.zero_add, Nat.reduceAdd, List.range_succ, List.range_zero, List.nil_append, List.cons_append, kw1, List.getElem?_toArray, List.getElem?_cons_zero, Go.Ab.put, ↓opK_some, ↓guK_none, roOf, aop, ev, upd, Nat.reduceEqDiff, ↓reduceIte, ↓roK_ok, List.getElem?_cons_succ, aInt, ty0, Int.reduceLE, Int.reduceLT, and_self, ptrAdd, Int.reduceToNat, Nat.reduceMul, Option.map_some, aload, rdCells, Nat.le_refl, List.drop_succ_cons, List.drop_zero, List.take_succ_cons, List.take_nil, aBin, ofV, aBinI, ↓guK_some, Option.bind_some, ↓tmK_some, ↓gsK_dec, ↓gsK_true, pickA, cond_true, symR_nil, ↓gdK_true, astore, AV.isEl.eq_2, AV.cells.eq_2, wrCells, splice, List.take_zero, List.drop_nil, List.append_nil, List.set_cons_succ, List.set_cons_zero, ty1, Option.some.injEq, true_and, beq_self_eq_true, ↓gsK_false, cond_false, ↓gdK_dec, sy_nil]
        refine ⟨fun h21 => ?_, fun h21 => ⟨fun h22 => ?_, fun h22 => ?_⟩⟩
        · refine ⟨rfl, _, rfl, ⟨fun _ => ?_, fun h0 => (by cases h0), _, rfl⟩⟩
          refine ⟨_, rfl, by simp [jumpOf], ?_⟩
          refine walk hmix T3_ok [] 3000 0 (by kernel_rfl) ?_
          simp (maxSteps := 2000000) only [T3, T2, T1, T0, jumpOf, Option.map_some, Option.toList_some, List.cons_append, List.nil_append, kw0, reduceCtorEq, or_true, upd, Nat.reduceEqDiff, ↓reduceIte, List.getElem?_cons_succ, List.getElem?_cons_zero, Nat.zero_add, List.length_cons, List.length_nil, Nat.le_refl, List.drop_zero, List.take_succ_cons, List.take_nil, Option.some.injEq, true_and]
          refine ⟨_, rfl, done_pur rfl ?_⟩
          rw [atV, atE, if_neg (by unfold okP; omega), if_pos hk, if_neg (by unfold okP; omega)]
        · refine ⟨rfl, _, rfl, ⟨fun _ => ?_, fun h0 => (by cases h0), _, rfl⟩⟩
          refine ⟨_, rfl, by simp [jumpOf], ?_⟩
          refine walk hmix T3_ok [] 3000 0 (by kernel_rfl) ?_
          simp (maxSteps := 2000000) only [T3, T2, T1, T0, jumpOf, Option.map_some, Option.toList_some, List.cons_append, List.nil_append, kw0, reduceCtorEq, or_true, upd, Nat.reduceEqDiff, ↓reduceIte, List.getElem?_cons_succ, List.getElem?_cons_zero, Nat.zero_add, List.length_cons, List.length_nil, Nat.le_refl, List.drop_zero, List.take_succ_cons, List.take_nil, Option.some.injEq, true_and]
          refine ⟨_, rfl, done_pur rfl ?_⟩
          rw [atV, atE, if_neg (by unfold okP; omega), if_pos hk, if_neg (by unfold okP; omega)]
        · refine ⟨rfl, _, rfl, ⟨fun h0 => (by cases h0), fun _ => ?_, _, rfl⟩⟩
          refine ⟨_, rfl, by simp [jumpOf], ?_⟩
          refine walk hmix T3_ok [] 3000 0 (by kernel_rfl) ?_
          simp (maxSteps := 2000000) only [T3, T2, T1, T0, jumpOf, Option.map_none, Option.toList_none, List.nil_append, kw0, List.size_toArray, List.length_cons, List.length_nil, Nat.zero_add, Nat.reduceAdd, List.range_succ, List.range_zero, List.cons_append, List.getElem?_toArray, List.getElem?_cons_zero, Go.Ab.put, ↓opK_some, ↓guK_none, kw1, roOf, aop, aload, ty0, rdCells, ev, upd, Nat.reduceEqDiff, ↓reduceIte, List.getElem?_cons_succ, Nat.le_refl, List.drop_zero, List.take_succ_cons, List.take_nil, Option.map_some, ↓roK_ok, astore, AV.isEl.eq_2, AV.cells.eq_2, and_self, wrCells, splice, List.take_zero, List.drop_succ_cons, List.drop_nil, List.append_nil, List.set_cons_succ, List.set_cons_zero, ofV, ty1, reduceCtorEq, or_true, Option.some.injEq, true_and]
          have hp : okP a b c x y z := by unfold okP; omega
          have hb := at_bound hk hp
          refine ⟨_, rfl, done_pur rfl ?_⟩
          unfold okP at hp
          rw [Int.one_mul, wrapL (n := x) (by omega) (by omega), wrapL (n := x) (by omega) (by omega), wrapL (n := a * y) (by omega) (by omega), wrapL (n := a * b * z) (by omega) (by omega),
            wrapL (n := x + a * y) (by omega) (by omega), wrapL (by omega) (by omega), atV, atE, if_pos ⟨hk, by unfold okP; omega⟩, if_pos hk, if_pos (by unfold okP; omega)]
  · rw [atV, atE, if_neg (fun hk => h (chk_ok.2 hk.1)), if_neg (fun hk => h (chk_ok.2 hk)), chk_no (fun hk => h (chk_ok.2 hk))]
def g46 : List AV → Option (Prop × AV)
  | [.agg [(.c (.int .i64 a)), (.c (.int .i64 b)), (.c (.int .i64 c))], .agg [(.c (.int .i64 x)), (.c (.int .i64 y)), (.c (.int .i64 z))]] => some (True, .tup [I (atV a b c x y z), I (atE a b c x y z)])
  | _ => none
theorem g46_ok : ∀ args p, g46 args = some p → p.1 → Pur Tryz.prog GG 46 args p.2 := by
  intro args p hp hc
  unfold g46 at hp
  split at hp
  · cases hp
    exact at_pur _ _ _ _ _ _
  · cases hp
def T4 : Tab := Tab.ext T3 46 g46
theorem T4_ok : TOk Tryz.prog GG T4 := TOk.ext T3_ok g46_ok
end Go.Ab.Pd

set_option linter.unusedSimpArgs false
set_option linter.unusedVariables false
namespace Go.Ab.Pd
open Go.Proofs
def ok1 (n s x : Int) : Prop := 1 ≤ s ∧ s ≤ n ∧ 0 ≤ x ∧ x < n
instance (n s x : Int) : Decidable (ok1 n s x) := by unfold ok1; infer_instance
def okB (a b c x y z p q r : Int) : Prop := ok1 a p x ∧ ok1 b q y ∧ ok1 c r z
instance (a b c x y z p q r : Int) : Decidable (okB a b c x y z p q r) := by unfold okB; infer_instance
def ckB (a b c x y z p q r : Int) : Int := if okD a b c then (if okB a b c x y z p q r then 0 else 2) else 8
theorem ok96 : codeOk 47 (Tryz.f96.body.getD .skip) = true := by kernel_rfl
theorem ro96 : resOk 47 Tryz.f96.results = true := by kernel_rfl
theorem dr96 : todoDr [] [.code (Tryz.f96.body.getD .skip)] = true := by kernel_rfl
set_option maxHeartbeats 4000000 in
set_option maxRecDepth 400000 in
theorem boxCheck_pur (a b c x y z p q r : Int) : Pur Tryz.prog GG 96 [.agg [I a, I b, I c], .agg [I x, I y, I z, I p, I q, I r]] (I (ckB a b c x y z p q r)) := by
  refine Pur.of_alone ggp (by first | rfl | (simp [AV.purL, AV.pur]; done) | (simp [AV.purL, AV.pur, frS_pur (purL_map IA _ (fun _ => rfl)), purL_map U _ (fun _ => rfl)]; done) | (simp [AV.purL, AV.pur, *]; done)) (AC.of_body (c := (Tryz.f96.body.getD .skip)) Tryz.func96 rfl (by decide) ok96 ro96 (by exact (by decide : 2 ≤ 47)) ?_)
  refine walk hmix T4_ok [] 3000 5 dr96 ?_
  delta Tryz.f96
  simp only [Option.getD_some]
  simp (maxSteps := 2000000) only [T4, T3, T2, T1, T0, resA, resL, resVar, Option.some.injEq, kw0, List.size_toArray, List.length_cons, List.length_nil, Nat.zero_add, Nat.reduceAdd, List.range_succ, List.range_zero, List.nil_append, List.cons_append, List.getElem?_toArray, List.getElem?_cons_zero, Go.Ab.put, ↓opK_some, ↓guK_none, kw1, roOf, aop, ev, argTs, List.getD_cons_zero, AV.isEl.eq_2, ↓reduceIte, AV.cells.eq_1, ↓roK_ok, List.getElem?_cons_succ, upd, Nat.reduceEqDiff, List.getD_cons_succ, ofV, aload, ty0, rdCells, Nat.le_refl, List.drop_zero, List.take_succ_cons, List.take_nil, Option.map_some, tcall, Tab.ext, g55, List.map_cons, List.map_nil, List.append_nil, aBin, aBinI, bne_eq_decide', ne_eq, decide_not, ↓gdK_not, ↓gdK_dec, Bool.not_true, Int.reduceLT, decide_true, ↓gdK_true, aInt, aIdx, Int.reduceLE, Int.cast_ofNat_Int, and_self, aPart, Int.toNat_zero, Nat.reduceMul, ty1, ptrAdd, Nat.add_zero, Nat.reduceLeDiff, List.drop_succ_cons, List.take_zero, ↓guK_some, Option.bind_some, ↓tmK_some, ↓gsK_dec, ↓gsK_true, pickA, cond_true, reduceCtorEq, or_true, true_and, beq_self_eq_true, ↓gsK_false, cond_false, Int.zero_add, Int.reduceNeg, wrapL, Int.toNat_one, Int.reduceAdd, Int.reduceToNat, decide_false, ↓gdK_false, exitTo, or_false, ↓exK_some, Bool.not_false]
  refine ⟨fun h => ?_, fun h => ⟨_, rfl, done_pur rfl ?_⟩⟩
  · have hk := chk_ok.1 h
    repeat' (first | apply And.intro | intro _)
    all_goals
      refine ⟨_, rfl, done_pur rfl ?_⟩
      simp only [AV.c.injEq, Value.int.injEq, true_and, ckB]
      rw [if_pos hk]
      first | (rw [if_pos (by unfold okB ok1; omega)]) | (rw [if_neg (by unfold okB ok1; omega)])
  · rw [ckB, if_neg (fun hk => h (chk_ok.2 hk)), chk_no (fun hk => h (chk_ok.2 hk))]
def g96 : List AV → Option (Prop × AV)
  | [.agg [(.c (.int .i64 a)), (.c (.int .i64 b)), (.c (.int .i64 c))], .agg [(.c (.int .i64 x)), (.c (.int .i64 y)), (.c (.int .i64 z)), (.c (.int .i64 p)), (.c (.int .i64 q)), (.c (.int .i64 r))]] => some (True, I (ckB a b c x y z p q r))
  | _ => none
theorem g96_ok : ∀ args p, g96 args = some p → p.1 → Pur Tryz.prog GG 96 args p.2 := by
  intro args p hp hc
  unfold g96 at hp
  split at hp
  · cases hp
    exact boxCheck_pur _ _ _ _ _ _ _ _ _
  · cases hp
def T5 : Tab := Tab.ext T4 96 g96
theorem T5_ok : TOk Tryz.prog GG T5 := TOk.ext T4_ok g96_ok
def can (e n s x : Int) : Int := if e = 0 then (if s = n then 0 else x) else 0
def cas (e s : Int) : Int := if e = 0 then s else 0
theorem can_t {e n s x : Int} (h0 : e = 0) (h : s = n) : can e n s x = 0 := by simp [can, h]
theorem can_f {e n s x : Int} (h0 : e = 0) (h : ¬s = n) : can e n s x = x := by simp [can, h, h0]
theorem can_n {e n s x : Int} (h0 : ¬e = 0) : can e n s x = 0 := by simp [can, h0]
theorem cas_t {e s : Int} (h0 : e = 0) : cas e s = s := by simp [cas, h0]
theorem cas_n {e s : Int} (h0 : ¬e = 0) : cas e s = 0 := by simp [cas, h0]
theorem ok67 : codeOk 32 (Tryz.f67.body.getD .skip) = true := by kernel_rfl
theorem ro67 : resOk 32 Tryz.f67.results = true := by kernel_rfl
theorem dr67 : todoDr [] [.code (Tryz.f67.body.getD .skip)] = true := by kernel_rfl
set_option maxHeartbeats 4000000 in
set_option maxRecDepth 400000 in
theorem canon_pur (a b c x y z p q r : Int) : Pur Tryz.prog GG 67 [.agg [I a, I b, I c], .agg [I x, I y, I z, I p, I q, I r]] (.tup [.agg [I (can (ckB a b c x y z p q r) a p x), I (can (ckB a b c x y z p q r) b q y), I (can (ckB a b c x y z p q r) c r z), I (cas (ckB a b c x y z p q r) p), I (cas (ckB a b c x y z p q r) q), I (cas (ckB a b c x y z p q r) r)], I (ckB a b c x y z p q r)]) := by
  refine Pur.of_alone ggp (by first | rfl | (simp [AV.purL, AV.pur]; done) | (simp [AV.purL, AV.pur, frS_pur (purL_map IA _ (fun _ => rfl)), purL_map U _ (fun _ => rfl)]; done) | (simp [AV.purL, AV.pur, *]; done)) (AC.of_body (c := (Tryz.f67.body.getD .skip)) Tryz.func67 rfl (by decide) ok67 ro67 (by exact (by decide : 2 ≤ 32)) ?_)
  refine walk hmix T5_ok [] 3000 5 dr67 ?_
  delta Tryz.f67
  simp only [Option.getD_some]
  simp (maxSteps := 2000000) only [T5, T4, T3, T2, T1, T0, resA, resL, resVar, aload, ty1, rdCells, kw0, List.size_toArray, List.length_cons, List.length_nil, Nat.zero_add, Nat.reduceAdd, List.range_succ, List.range_zero, List.nil_append, List.cons_append, List.getElem?_toArray, List.getElem?_cons_zero, Go.Ab.put, ↓opK_some, ↓guK_none, kw1, roOf, aop, ev, argTs, List.getD_cons_zero, AV.isEl.eq_2, ↓reduceIte, AV.cells.eq_1, ↓roK_ok, List.getElem?_cons_succ, upd, Nat.reduceEqDiff, List.getD_cons_succ, ofV, ty0, Nat.le_refl, List.drop_zero, List.take_succ_cons, List.take_nil, Option.map_some, tcall, Tab.ext, g96, List.map_cons, List.map_nil, List.append_nil, aBin, aBinI, bne_eq_decide', ne_eq, decide_not, ↓gdK_not, ↓gdK_dec, Bool.not_true, Int.reduceLT, decide_true, ↓gdK_true, aInt, aIdx, Int.reduceLE, Int.cast_ofNat_Int, and_self, aPart, Int.toNat_zero, Nat.reduceMul, ptrAdd, Nat.add_zero, Nat.reduceLeDiff, List.drop_succ_cons, List.take_zero, beq_eq_decide', astore, AV.cells.eq_2, wrCells, splice, List.set_cons_succ, List.set_cons_zero, Int.zero_add, Int.reduceNeg, wrapL, Int.toNat_one, Int.reduceAdd, Int.reduceToNat, decide_false, ↓gdK_false, exitTo, beq_self_eq_true, reduceCtorEq, or_false, Option.some.injEq, ↓exK_some, List.drop_nil, or_true, true_and, Bool.not_false, aBuild, aFill]
  refine ⟨fun h => ?_, fun h => ⟨_, rfl, done_pur rfl (by rw [can_n h, can_n h, can_n h, cas_n h, cas_n h, cas_n h])⟩⟩
  rw [cas_t h, cas_t h, cas_t h]
  refine ⟨fun h1 => ⟨fun h2 => ⟨fun h3 => ?_, fun h3 => ?_⟩, fun h2 => ⟨fun h3 => ?_, fun h3 => ?_⟩⟩, fun h1 => ⟨fun h2 => ⟨fun h3 => ?_, fun h3 => ?_⟩, fun h2 => ⟨fun h3 => ?_, fun h3 => ?_⟩⟩⟩
  all_goals
    refine ⟨_, rfl, done_pur rfl ?_⟩
    first | rw [can_t h h1] | rw [can_f h h1]
    first | rw [can_t h h2] | rw [can_f h h2]
    first | rw [can_t h h3, h] | rw [can_f h h3, h]
def g67 : List AV → Option (Prop × AV)
  | [.agg [(.c (.int .i64 a)), (.c (.int .i64 b)), (.c (.int .i64 c))], .agg [(.c (.int .i64 x)), (.c (.int .i64 y)), (.c (.int .i64 z)), (.c (.int .i64 p)), (.c (.int .i64 q)), (.c (.int .i64 r))]] => some (True, .tup [.agg [I (can (ckB a b c x y z p q r) a p x), I (can (ckB a b c x y z p q r) b q y), I (can (ckB a b c x y z p q r) c r z), I (cas (ckB a b c x y z p q r) p), I (cas (ckB a b c x y z p q r) q), I (cas (ckB a b c x y z p q r) r)], I (ckB a b c x y z p q r)])
  | _ => none
theorem g67_ok : ∀ args p, g67 args = some p → p.1 → Pur Tryz.prog GG 67 args p.2 := by
  intro args p hp hc
  unfold g67 at hp
  split at hp
  · cases hp
    exact canon_pur _ _ _ _ _ _ _ _ _
  · cases hp
def T6 : Tab := Tab.ext T5 67 g67
theorem T6_ok : TOk Tryz.prog GG T6 := TOk.ext T5_ok g67_ok
end Go.Ab.Pd

set_option linter.unusedSimpArgs false
set_option linter.unusedVariables false
namespace Go.Ab.Pd
open Go.Proofs
def stp (x n s : Int) : Int := (x + s.tmod n + n).tmod n
theorem stp_wrap {x n s : Int} (h1 : 0 ≤ x) (h2 : x < n) (h3 : n ≤ 16) : (IntKind.i64.wrap (IntKind.i64.wrap (x + s.tmod n) + n)).tmod n = stp x n s := by
  have h4 : s.tmod n < n := Int.tmod_lt_of_pos s (by omega)
  have h5 : -n < s.tmod n := Int.lt_tmod_of_pos s (by omega)
  rw [wrapL (n := x + s.tmod n) (by omega) (by omega), wrapL (by omega) (by omega), stp]
theorem of0 {a b c m : Int} (h : ofE a b c m = 0) : inM a b c m := by
  unfold ofE at h
  split at h
  · split at h
    · exact ⟨by assumption, by omega, by omega⟩
    · omega
  · omega
theorem of_bounds {a b c m : Int} (h : inM a b c m) : (0 ≤ ofX a b c m ∧ ofX a b c m < a) ∧ (0 ≤ ofY a b c m ∧ ofY a b c m < b) ∧ (0 ≤ ofZ a b c m ∧ ofZ a b c m < c) ∧ (1 ≤ a ∧ a ≤ 16) ∧ (1 ≤ b ∧ b ≤ 16) ∧ (1 ≤ c ∧ c ≤ 16) := by
  have hd := h.1
  unfold okD at hd
  rw [ofX, ofY, ofZ, if_pos h, if_pos h, if_pos h]
  exact ⟨⟨Int.emod_nonneg _ (by omega), Int.emod_lt_of_pos _ (by omega)⟩, ⟨Int.emod_nonneg _ (by omega), Int.emod_lt_of_pos _ (by omega)⟩, ⟨Int.emod_nonneg _ (by omega), Int.emod_lt_of_pos _ (by omega)⟩, hd⟩
def stV0 (a b c m s : Int) : Int := if ofE a b c m = 0 then atV a b c (stp (ofX a b c m) a s) (ofY a b c m) (ofZ a b c m) else 0
def stE0 (a b c m s : Int) : Int := if ofE a b c m = 0 then atE a b c (stp (ofX a b c m) a s) (ofY a b c m) (ofZ a b c m) else ofE a b c m
theorem ok103 : codeOk 51 (Tryz.f103.body.getD .skip) = true := by kernel_rfl
theorem ro103 : resOk 51 Tryz.f103.results = true := by kernel_rfl
theorem dr103 : todoDr [] [.code (Tryz.f103.body.getD .skip)] = true := by kernel_rfl
set_option maxHeartbeats 4000000 in
set_option maxRecDepth 400000 in
theorem step0_pur (a b c m s : Int) : Pur Tryz.prog GG 103 [.agg [I a, I b, I c], I m, I 0, I s] (.tup [I (stV0 a b c m s), I (stE0 a b c m s)]) := by
  refine Pur.of_alone ggp (by first | rfl | (simp [AV.purL, AV.pur]; done) | (simp [AV.purL, AV.pur, frS_pur (purL_map IA _ (fun _ => rfl)), purL_map U _ (fun _ => rfl)]; done) | (simp [AV.purL, AV.pur, *]; done)) (AC.of_body (c := (Tryz.f103.body.getD .skip)) Tryz.func103 rfl (by decide) ok103 ro103 (by exact (by decide : 4 ≤ 51)) ?_)
  refine walk hmix T6_ok [] 3000 0 dr103 ?_
  delta Tryz.f103
  simp only [Option.getD_some]
  simp (maxSteps := 2000000) only [T6, T5, T4, T3, T2, T1, T0, resA, resL, resVar, Option.some.injEq, kw0, List.size_toArray, List.length_cons, List.length_nil, Nat.zero_add, Nat.reduceAdd, List.range_succ, List.range_zero, List.nil_append, List.cons_append, List.getElem?_toArray, List.getElem?_cons_zero, Go.Ab.put, ↓opK_some, ↓guK_none, kw1, roOf, aop, ev, argTs, List.getD_cons_zero, AV.isEl.eq_2, ↓reduceIte, AV.cells.eq_1, ↓roK_ok, List.getElem?_cons_succ, ofV, aload, ty0, rdCells, upd, Nat.reduceEqDiff, Nat.le_refl, List.drop_zero, List.take_succ_cons, List.take_nil, Option.map_some, List.getD_cons_succ, tcall, Tab.ext, g93, List.map_cons, List.map_nil, List.append_nil, astore, and_self, wrCells, splice, List.take_zero, List.drop_succ_cons, List.drop_nil, List.set_cons_succ, List.set_cons_zero, aBin, aBinI, bne_eq_decide', ne_eq, decide_not, ↓gdK_not, ↓gdK_dec, Bool.not_true, Int.reduceLT, decide_false, ↓guK_some, Option.bind_some, ↓tmK_some, ↓gsK_false, beq_self_eq_true, pickA, cond_false, ↓gdK_false, aInt, Int.reduceLE, ptrAdd, Int.toNat_zero, Nat.reduceMul, Nat.add_zero, Nat.reduceLeDiff, List.contains_nil, AV.cells.eq_2, symR_nil, g46, reduceCtorEq, or_true, true_and, Bool.not_false]
  refine ⟨fun h => ?_, fun h => ⟨_, rfl, done_pur rfl (by rw [stV0, stE0, if_neg h, if_neg h])⟩⟩
  have hb := of_bounds (of0 h)
  refine ⟨by omega, by omega, ⟨_, rfl, done_pur rfl ?_⟩⟩
  rw [stp_wrap (by omega) (by omega) (by omega), stV0, stE0, if_pos h, if_pos h]
def stV1 (a b c m s : Int) : Int := if ofE a b c m = 0 then atV a b c (ofX a b c m) (stp (ofY a b c m) b s) (ofZ a b c m) else 0
def stE1 (a b c m s : Int) : Int := if ofE a b c m = 0 then atE a b c (ofX a b c m) (stp (ofY a b c m) b s) (ofZ a b c m) else ofE a b c m
set_option maxHeartbeats 4000000 in
set_option maxRecDepth 400000 in
theorem step1_pur (a b c m s : Int) : Pur Tryz.prog GG 103 [.agg [I a, I b, I c], I m, I 1, I s] (.tup [I (stV1 a b c m s), I (stE1 a b c m s)]) := by
  refine Pur.of_alone ggp (by first | rfl | (simp [AV.purL, AV.pur]; done) | (simp [AV.purL, AV.pur, frS_pur (purL_map IA _ (fun _ => rfl)), purL_map U _ (fun _ => rfl)]; done) | (simp [AV.purL, AV.pur, *]; done)) (AC.of_body (c := (Tryz.f103.body.getD .skip)) Tryz.func103 rfl (by decide) ok103 ro103 (by exact (by decide : 4 ≤ 51)) ?_)
  refine walk hmix T6_ok [] 3000 0 dr103 ?_
  delta Tryz.f103
  simp only [Option.getD_some]
  simp (maxSteps := 2000000) only [T6, T5, T4, T3, T2, T1, T0, resA, resL, resVar, Option.some.injEq, kw0, List.size_toArray, List.length_cons, List.length_nil, Nat.zero_add, Nat.reduceAdd, List.range_succ, List.range_zero, List.nil_append, List.cons_append, List.getElem?_toArray, List.getElem?_cons_zero, Go.Ab.put, ↓opK_some, ↓guK_none, kw1, roOf, aop, ev, argTs, List.getD_cons_zero, AV.isEl.eq_2, ↓reduceIte, AV.cells.eq_1, ↓roK_ok, List.getElem?_cons_succ, ofV, aload, ty0, rdCells, upd, Nat.reduceEqDiff, Nat.le_refl, List.drop_zero, List.take_succ_cons, List.take_nil, Option.map_some, List.getD_cons_succ, tcall, Tab.ext, g93, List.map_cons, List.map_nil, List.append_nil, astore, and_self, wrCells, splice, List.take_zero, List.drop_succ_cons, List.drop_nil, List.set_cons_succ, List.set_cons_zero, aBin, aBinI, bne_eq_decide', ne_eq, decide_not, ↓gdK_not, ↓gdK_dec, Bool.not_true, Int.reduceLT, decide_false, ↓guK_some, Option.bind_some, ↓tmK_some, ↓gsK_false, beq_self_eq_true, pickA, cond_false, ↓gdK_false, aInt, Int.reduceLE, ptrAdd, Int.toNat_one, Nat.reduceMul, Nat.reduceLeDiff, List.contains_nil, AV.cells.eq_2, symR_nil, g46, reduceCtorEq, or_true, true_and, Bool.not_false]
  refine ⟨fun h => ?_, fun h => ⟨_, rfl, done_pur rfl (by rw [stV1, stE1, if_neg h, if_neg h])⟩⟩
  have hb := of_bounds (of0 h)
  refine ⟨by omega, by omega, ⟨_, rfl, done_pur rfl ?_⟩⟩
  rw [stp_wrap (by omega) (by omega) (by omega), stV1, stE1, if_pos h, if_pos h]
def stV2 (a b c m s : Int) : Int := if ofE a b c m = 0 then atV a b c (ofX a b c m) (ofY a b c m) (stp (ofZ a b c m) c s) else 0
def stE2 (a b c m s : Int) : Int := if ofE a b c m = 0 then atE a b c (ofX a b c m) (ofY a b c m) (stp (ofZ a b c m) c s) else ofE a b c m
set_option maxHeartbeats 4000000 in
set_option maxRecDepth 400000 in
theorem step2_pur (a b c m s : Int) : Pur Tryz.prog GG 103 [.agg [I a, I b, I c], I m, I 2, I s] (.tup [I (stV2 a b c m s), I (stE2 a b c m s)]) := by
  refine Pur.of_alone ggp (by first | rfl | (simp [AV.purL, AV.pur]; done) | (simp [AV.purL, AV.pur, frS_pur (purL_map IA _ (fun _ => rfl)), purL_map U _ (fun _ => rfl)]; done) | (simp [AV.purL, AV.pur, *]; done)) (AC.of_body (c := (Tryz.f103.body.getD .skip)) Tryz.func103 rfl (by decide) ok103 ro103 (by exact (by decide : 4 ≤ 51)) ?_)
  refine walk hmix T6_ok [] 3000 0 dr103 ?_
  delta Tryz.f103
  simp only [Option.getD_some]
  simp (maxSteps := 2000000) only [T6, T5, T4, T3, T2, T1, T0, resA, resL, resVar, Option.some.injEq, kw0, List.size_toArray, List.length_cons, List.length_nil, Nat.zero_add, Nat.reduceAdd, List.range_succ, List.range_zero, List.nil_append, List.cons_append, List.getElem?_toArray, List.getElem?_cons_zero, Go.Ab.put, ↓opK_some, ↓guK_none, kw1, roOf, aop, ev, argTs, List.getD_cons_zero, AV.isEl.eq_2, ↓reduceIte, AV.cells.eq_1, ↓roK_ok, List.getElem?_cons_succ, ofV, aload, ty0, rdCells, upd, Nat.reduceEqDiff, Nat.le_refl, List.drop_zero, List.take_succ_cons, List.take_nil, Option.map_some, List.getD_cons_succ, tcall, Tab.ext, g93, List.map_cons, List.map_nil, List.append_nil, astore, and_self, wrCells, splice, List.take_zero, List.drop_succ_cons, List.drop_nil, List.set_cons_succ, List.set_cons_zero, aBin, aBinI, bne_eq_decide', ne_eq, decide_not, ↓gdK_not, ↓gdK_dec, Bool.not_true, Int.reduceLT, decide_false, ↓guK_some, Option.bind_some, ↓tmK_some, ↓gsK_false, beq_self_eq_true, pickA, cond_false, ↓gdK_false, aInt, Int.reduceLE, ptrAdd, Int.reduceToNat, Nat.reduceMul, List.contains_nil, AV.cells.eq_2, symR_nil, g46, reduceCtorEq, or_true, true_and, Bool.not_false]
  refine ⟨fun h => ?_, fun h => ⟨_, rfl, done_pur rfl (by rw [stV2, stE2, if_neg h, if_neg h])⟩⟩
  have hb := of_bounds (of0 h)
  refine ⟨by omega, by omega, ⟨_, rfl, done_pur rfl ?_⟩⟩
  rw [stp_wrap (by omega) (by omega) (by omega), stV2, stE2, if_pos h, if_pos h]
set_option maxHeartbeats 4000000 in
set_option maxRecDepth 400000 in
theorem stepN_pur (a b c m k s : Int) (hp : k < 0 ∨ 2 < k) : Pur Tryz.prog GG 103 [.agg [I a, I b, I c], I m, I k, I s] (.tup [I 0, I (if ofE a b c m = 0 then 2 else ofE a b c m)]) := by
  refine Pur.of_alone ggp (by first | rfl | (simp [AV.purL, AV.pur]; done) | (simp [AV.purL, AV.pur, frS_pur (purL_map IA _ (fun _ => rfl)), purL_map U _ (fun _ => rfl)]; done) | (simp [AV.purL, AV.pur, *]; done)) (AC.of_body (c := (Tryz.f103.body.getD .skip)) Tryz.func103 rfl (by decide) ok103 ro103 (by exact (by decide : 4 ≤ 51)) ?_)
  refine walk hmix T6_ok [] 3000 0 dr103 ?_
  delta Tryz.f103
  simp only [Option.getD_some]
  simp (maxSteps := 2000000) only [T6, T5, T4, T3, T2, T1, T0, resA, resL, resVar, Option.some.injEq, kw0, List.size_toArray, List.length_cons, List.length_nil, Nat.zero_add, Nat.reduceAdd, List.range_succ, List.range_zero, List.nil_append, List.cons_append, List.getElem?_toArray, List.getElem?_cons_zero, Go.Ab.put, ↓opK_some, ↓guK_none, kw1, roOf, aop, ev, argTs, List.getD_cons_zero, AV.isEl.eq_2, ↓reduceIte, AV.cells.eq_1, ↓roK_ok, List.getElem?_cons_succ, ofV, aload, ty0, rdCells, upd, Nat.reduceEqDiff, Nat.le_refl, List.drop_zero, List.take_succ_cons, List.take_nil, Option.map_some, List.getD_cons_succ, tcall, Tab.ext, g93, List.map_cons, List.map_nil, List.append_nil, astore, and_self, wrCells, splice, List.take_zero, List.drop_succ_cons, List.drop_nil, List.set_cons_succ, List.set_cons_zero, aBin, aBinI, bne_eq_decide', ne_eq, decide_not, ↓gdK_not, ↓gdK_dec, Bool.not_true, ↓guK_some, Option.bind_some, ↓tmK_some, ↓gsK_dec, ↓gsK_true, pickA, cond_true, ↓gdK_true, reduceCtorEq, or_true, true_and, beq_self_eq_true, ↓gsK_false, cond_false, aInt, ptrAdd, Nat.reduceLeDiff, Bool.not_false]
  refine ⟨fun h => ⟨fun h1 => ⟨_, rfl, done_pur rfl (by rw [if_pos h])⟩, fun h1 => ⟨fun h2 => ⟨_, rfl, done_pur rfl (by rw [if_pos h])⟩, fun h2 => absurd hp (by omega)⟩⟩, fun h => ⟨_, rfl, done_pur rfl (by rw [if_neg h])⟩⟩
def stV (a b c m k s : Int) : Int := if k = 0 then stV0 a b c m s else if k = 1 then stV1 a b c m s else if k = 2 then stV2 a b c m s else 0
def stE (a b c m k s : Int) : Int := if k = 0 then stE0 a b c m s else if k = 1 then stE1 a b c m s else if k = 2 then stE2 a b c m s else if ofE a b c m = 0 then 2 else ofE a b c m
theorem step_pur (a b c m k s : Int) : Pur Tryz.prog GG 103 [.agg [I a, I b, I c], I m, I k, I s] (.tup [I (stV a b c m k s), I (stE a b c m k s)]) := by
  unfold stV stE
  by_cases h0 : k = 0
  · subst h0; rw [if_pos rfl, if_pos rfl]; exact step0_pur a b c m s
  · rw [if_neg h0, if_neg h0]
    by_cases h1 : k = 1
    · subst h1; rw [if_pos rfl, if_pos rfl]; exact step1_pur a b c m s
    · rw [if_neg h1, if_neg h1]
      by_cases h2 : k = 2
      · subst h2; rw [if_pos rfl, if_pos rfl]; exact step2_pur a b c m s
      · rw [if_neg h2, if_neg h2]; exact stepN_pur a b c m k s (by omega)
def gstep : List AV → Option (Prop × AV)
  | [.agg [.c (.int .i64 a), .c (.int .i64 b), .c (.int .i64 c)], .c (.int .i64 m), .c (.int .i64 k), .c (.int .i64 s)] => some (True, .tup [I (stV a b c m k s), I (stE a b c m k s)])
  | _ => none
theorem gstep_ok : ∀ args p, gstep args = some p → p.1 → Pur Tryz.prog GG 103 args p.2 := by
  intro args p hp hc
  unfold gstep at hp
  split at hp
  · cases hp
    exact step_pur _ _ _ _ _ _
  · cases hp
def T7 : Tab := Tab.ext T6 103 gstep
theorem T7_ok : TOk Tryz.prog GG T7 := TOk.ext T6_ok gstep_ok
end Go.Ab.Pd

set_option linter.unusedSimpArgs false
set_option linter.unusedVariables false
namespace Go.Ab.Pd
open Go.Proofs
def wordsV (n : Int) : Int := if 1 ≤ n ∧ n ≤ 12288 then (n + 63) / 64 else -1
theorem ok61 : codeOk 13 (Tryz.f61.body.getD .skip) = true := by kernel_rfl
theorem ro61 : resOk 13 Tryz.f61.results = true := by kernel_rfl
theorem dr61 : todoDr [] [.code (Tryz.f61.body.getD .skip)] = true := by kernel_rfl
set_option maxHeartbeats 4000000 in
set_option maxRecDepth 400000 in
theorem words_pur (n : Int) : Pur Tryz.prog GG 61 [I n] (I (wordsV n)) := by
  refine Pur.of_alone ggp (by first | rfl | (simp [AV.purL, AV.pur]; done) | (simp [AV.purL, AV.pur, frS_pur (purL_map IA _ (fun _ => rfl)), purL_map U _ (fun _ => rfl)]; done) | (simp [AV.purL, AV.pur, *]; done)) (AC.of_body (c := (Tryz.f61.body.getD .skip)) Tryz.func61 rfl (by decide) ok61 ro61 (by exact (by decide : 1 ≤ 13)) ?_)
  refine walk hmix T7_ok [] 3000 0 dr61 ?_
  delta Tryz.f61
  simp only [Option.getD_some]
  simp (maxSteps := 2000000) only [T7, T6, T5, T4, T3, T2, T1, T0, Int.reduceNeg, resA, resL, resVar, Option.some.injEq, kw0, List.size_toArray, List.length_cons, List.length_nil, Nat.zero_add, List.range_succ, List.range_zero, List.nil_append, List.getElem?_toArray, List.getElem?_cons_zero, Go.Ab.put, ↓opK_some, ↓guK_none, kw1, roOf, aop, ev, ofV, ↓roK_ok, Nat.reduceAdd, List.cons_append, upd, reduceCtorEq, ↓reduceIte, argTs, List.getD_cons_zero, List.getElem?_cons_succ, aBin, aBinI, Option.map_some, ↓guK_some, Option.bind_some, ↓tmK_some, ↓gsK_dec, Nat.reduceEqDiff, ↓gsK_true, pickA, cond_true, ↓gdK_true, or_true, true_and, beq_self_eq_true, ↓gsK_false, cond_false, ↓gdK_dec, ne_eq, Int.reduceEq, not_false_eq_true]
  refine ⟨fun h => ⟨_, rfl, done_pur rfl (by rw [wordsV, if_neg (by omega)])⟩, fun h => ⟨fun h2 => ⟨_, rfl, done_pur rfl (by rw [wordsV, if_neg (by omega)])⟩, fun h2 => ?_⟩⟩
  refine ⟨_, rfl, done_pur rfl ?_⟩
  rw [wrapL (n := n + 64) (by omega) (by omega), wrapL (n := n + 64 - 1) (by omega) (by omega), Int.tdiv_eq_ediv_of_nonneg (by omega), wrapL (by omega) (by omega), wordsV, if_pos (by omega), show n + 64 - 1 = n + 63 by omega]
def g61 : List AV → Option (Prop × AV)
  | [(.c (.int .i64 n))] => some (True, I (wordsV n))
  | _ => none
theorem g61_ok : ∀ args p, g61 args = some p → p.1 → Pur Tryz.prog GG 61 args p.2 := by
  intro args p hp hc
  unfold g61 at hp
  split at hp
  · cases hp
    exact words_pur _
  · cases hp
def T8 : Tab := Tab.ext T7 61 g61
theorem T8_ok : TOk Tryz.prog GG T8 := TOk.ext T7_ok g61_ok
def bitV (b : Bool) : Int := if b = true then 1 else 0
theorem gdK_var {b : Bool} {k : Bool → Bool → Prop} {e : Prop} : gdK (.c (.bool b)) k e = ((b = true → k true true) ∧ (b = false → k true false)) := by cases b <;> simp [gdK]
theorem ok100 : codeOk 4 (Tryz.f100.body.getD .skip) = true := by kernel_rfl
theorem ro100 : resOk 4 Tryz.f100.results = true := by kernel_rfl
theorem dr100 : todoDr [] [.code (Tryz.f100.body.getD .skip)] = true := by kernel_rfl
set_option maxHeartbeats 4000000 in
set_option maxRecDepth 400000 in
theorem bit4_pur (b : Bool) : Pur Tryz.prog GG 100 [B b] (I (bitV b)) := by
  refine Pur.of_alone ggp (by first | rfl | (simp [AV.purL, AV.pur]; done) | (simp [AV.purL, AV.pur, frS_pur (purL_map IA _ (fun _ => rfl)), purL_map U _ (fun _ => rfl)]; done) | (simp [AV.purL, AV.pur, *]; done)) (AC.of_body (c := (Tryz.f100.body.getD .skip)) Tryz.func100 rfl (by decide) ok100 ro100 (by exact (by decide : 1 ≤ 4)) ?_)
  refine walk hmix T8_ok [] 3000 0 dr100 ?_
  delta Tryz.f100
  simp only [Option.getD_some]
  simp (maxSteps := 2000000) only [T8, T7, T6, T5, T4, T3, T2, T1, T0, resA, resL, resVar, Option.some.injEq, kw0, List.size_toArray, List.length_cons, List.length_nil, Nat.zero_add, List.range_succ, List.range_zero, List.nil_append, List.getElem?_toArray, List.getElem?_cons_zero, Go.Ab.put, ↓opK_some, ↓guK_none, kw1, roOf, aop, ev, ofV, ↓roK_ok, upd, reduceCtorEq, ↓reduceIte, argTs, List.getD_cons_zero, gdK_var, or_true, true_and]
  exact ⟨fun h => ⟨_, rfl, done_pur rfl (by rw [bitV, if_pos h])⟩, fun h => ⟨_, rfl, done_pur rfl (by rw [bitV, if_neg (by simp [h])])⟩⟩
def g100 : List AV → Option (Prop × AV)
  | [(.c (.bool b))] => some (True, I (bitV b))
  | _ => none
theorem g100_ok : ∀ args p, g100 args = some p → p.1 → Pur Tryz.prog GG 100 args p.2 := by
  intro args p hp hc
  unfold g100 at hp
  split at hp
  · cases hp
    exact bit4_pur _
  · cases hp
def T9 : Tab := Tab.ext T8 100 g100
theorem T9_ok : TOk Tryz.prog GG T9 := TOk.ext T8_ok g100_ok
theorem ok95 : codeOk 4 (Tryz.f95.body.getD .skip) = true := by kernel_rfl
theorem ro95 : resOk 4 Tryz.f95.results = true := by kernel_rfl
theorem dr95 : todoDr [] [.code (Tryz.f95.body.getD .skip)] = true := by kernel_rfl
set_option maxHeartbeats 4000000 in
set_option maxRecDepth 400000 in
theorem bit12_pur (b : Bool) : Pur Tryz.prog GG 95 [B b] (I (bitV b)) := by
  refine Pur.of_alone ggp (by first | rfl | (simp [AV.purL, AV.pur]; done) | (simp [AV.purL, AV.pur, frS_pur (purL_map IA _ (fun _ => rfl)), purL_map U _ (fun _ => rfl)]; done) | (simp [AV.purL, AV.pur, *]; done)) (AC.of_body (c := (Tryz.f95.body.getD .skip)) Tryz.func95 rfl (by decide) ok95 ro95 (by exact (by decide : 1 ≤ 4)) ?_)
  refine walk hmix T9_ok [] 3000 0 dr95 ?_
  delta Tryz.f95
  simp only [Option.getD_some]
  simp (maxSteps := 2000000) only [T9, T8, T7, T6, T5, T4, T3, T2, T1, T0, resA, resL, resVar, Option.some.injEq, kw0, List.size_toArray, List.length_cons, List.length_nil, Nat.zero_add, List.range_succ, List.range_zero, List.nil_append, List.getElem?_toArray, List.getElem?_cons_zero, Go.Ab.put, ↓opK_some, ↓guK_none, kw1, roOf, aop, ev, ofV, ↓roK_ok, upd, reduceCtorEq, ↓reduceIte, argTs, List.getD_cons_zero, gdK_var, or_true, true_and]
  exact ⟨fun h => ⟨_, rfl, done_pur rfl (by rw [bitV, if_pos h])⟩, fun h => ⟨_, rfl, done_pur rfl (by rw [bitV, if_neg (by simp [h])])⟩⟩
def g95 : List AV → Option (Prop × AV)
  | [(.c (.bool b))] => some (True, I (bitV b))
  | _ => none
theorem g95_ok : ∀ args p, g95 args = some p → p.1 → Pur Tryz.prog GG 95 args p.2 := by
  intro args p hp hc
  unfold g95 at hp
  split at hp
  · cases hp
    exact bit12_pur _
  · cases hp
def T10 : Tab := Tab.ext T9 95 g95
theorem T10_ok : TOk Tryz.prog GG T10 := TOk.ext T9_ok g95_ok
theorem ok78 : codeOk 6 (Tryz.f78.body.getD .skip) = true := by kernel_rfl
theorem ro78 : resOk 6 Tryz.f78.results = true := by kernel_rfl
theorem dr78 : todoDr [] [.code (Tryz.f78.body.getD .skip)] = true := by kernel_rfl
set_option maxHeartbeats 4000000 in
set_option maxRecDepth 400000 in
theorem nan_pur (n : Int) : Pur Tryz.prog GG 78 [I n] (B false) := by
  refine Pur.of_alone ggp (by first | rfl | (simp [AV.purL, AV.pur]; done) | (simp [AV.purL, AV.pur, frS_pur (purL_map IA _ (fun _ => rfl)), purL_map U _ (fun _ => rfl)]; done) | (simp [AV.purL, AV.pur, *]; done)) (AC.of_body (c := (Tryz.f78.body.getD .skip)) Tryz.func78 rfl (by decide) ok78 ro78 (by exact (by decide : 1 ≤ 6)) ?_)
  refine walk hmix T10_ok [] 3000 0 dr78 ?_
  delta Tryz.f78
  simp only [Option.getD_some]
  simp (maxSteps := 2000000) only [T10, T9, T8, T7, T6, T5, T4, T3, T2, T1, T0, resA, resL, resVar, Option.some.injEq, kw0, List.size_toArray, List.length_cons, List.length_nil, Nat.zero_add, List.range_succ, List.range_zero, List.nil_append, List.getElem?_toArray, List.getElem?_cons_zero, Go.Ab.put, ↓opK_some, ↓guK_none, kw1, roOf, aop, ev, ofV, ↓roK_ok, Nat.reduceAdd, List.cons_append, upd, reduceCtorEq, ↓reduceIte, argTs, List.getD_cons_zero, List.getElem?_cons_succ, aBin, Nat.reduceEqDiff, aBinI, bne_eq_decide', ne_eq, not_true_eq_false, decide_false, Option.map_some, or_true, true_and]
  exact ⟨_, rfl, done_pur rfl rfl⟩
def g78 : List AV → Option (Prop × AV)
  | [(.c (.int .i64 n))] => some (True, B false)
  | _ => none
theorem g78_ok : ∀ args p, g78 args = some p → p.1 → Pur Tryz.prog GG 78 args p.2 := by
  intro args p hp hc
  unfold g78 at hp
  split at hp
  · cases hp
    exact nan_pur _
  · cases hp
def T11 : Tab := Tab.ext T10 78 g78
theorem T11_ok : TOk Tryz.prog GG T11 := TOk.ext T10_ok g78_ok
def cmpV (m n : Int) : Int := if m < n then -1 else if n < m then 1 else 0
theorem ok49 : codeOk 20 (Tryz.f49.body.getD .skip) = true := by kernel_rfl
theorem ro49 : resOk 20 Tryz.f49.results = true := by kernel_rfl
theorem dr49 : todoDr [] [.code (Tryz.f49.body.getD .skip)] = true := by kernel_rfl
set_option maxHeartbeats 4000000 in
set_option maxRecDepth 400000 in
theorem cmp_pur (m n : Int) : Pur Tryz.prog GG 49 [I m, I n] (I (cmpV m n)) := by
  refine Pur.of_alone ggp (by first | rfl | (simp [AV.purL, AV.pur]; done) | (simp [AV.purL, AV.pur, frS_pur (purL_map IA _ (fun _ => rfl)), purL_map U _ (fun _ => rfl)]; done) | (simp [AV.purL, AV.pur, *]; done)) (AC.of_body (c := (Tryz.f49.body.getD .skip)) Tryz.func49 rfl (by decide) ok49 ro49 (by exact (by decide : 2 ≤ 20)) ?_)
  refine walk hmix T11_ok [] 3000 0 dr49 ?_
  delta Tryz.f49
  simp only [Option.getD_some]
  simp (maxSteps := 2000000) only [T11, T10, T9, T8, T7, T6, T5, T4, T3, T2, T1, T0, Int.reduceNeg, resA, resL, resVar, Option.some.injEq, kw0, List.size_toArray, List.length_cons, List.length_nil, Nat.zero_add, List.range_succ, List.range_zero, List.nil_append, List.getElem?_toArray, List.getElem?_cons_zero, Go.Ab.put, ↓opK_some, ↓guK_none, kw1, roOf, aop, ev, ofV, ↓roK_ok, Nat.reduceAdd, List.cons_append, upd, reduceCtorEq, ↓reduceIte, argTs, List.getD_cons_zero, List.getElem?_cons_succ, tcall, Tab.ext, g78, List.map_cons, List.map_nil, List.append_nil, Nat.reduceEqDiff, List.getD_cons_succ, ↓gdK_false, aBin, aBinI, Option.map_some, ↓gdK_dec, or_true, true_and]
  exact ⟨fun h => ⟨_, rfl, done_pur rfl (by rw [cmpV, if_pos h])⟩, fun h => ⟨fun h2 => ⟨_, rfl, done_pur rfl (by rw [cmpV, if_neg h, if_pos h2])⟩, fun h2 => ⟨_, rfl, done_pur rfl (by rw [cmpV, if_neg h, if_neg h2])⟩⟩⟩
def g49 : List AV → Option (Prop × AV)
  | [(.c (.int .i64 m)), (.c (.int .i64 n))] => some (True, I (cmpV m n))
  | _ => none
theorem g49_ok : ∀ args p, g49 args = some p → p.1 → Pur Tryz.prog GG 49 args p.2 := by
  intro args p hp hc
  unfold g49 at hp
  split at hp
  · cases hp
    exact cmp_pur _ _
  · cases hp
def T12 : Tab := Tab.ext T11 49 g49
theorem T12_ok : TOk Tryz.prog GG T12 := TOk.ext T11_ok g49_ok
def okA (a b c k m : Int) : Prop := (0 ≤ k ∧ k ≤ 2) ∧ 0 ≤ m ∧ m < manyV a b c
instance (a b c k m : Int) : Decidable (okA a b c k m) := by unfold okA; infer_instance
def askE (a b c k m : Int) : Int := if chk a b c = 0 then (if okA a b c k m then 0 else 2) else chk a b c
theorem ok106 : codeOk 34 (Tryz.f106.body.getD .skip) = true := by kernel_rfl
theorem ro106 : resOk 34 Tryz.f106.results = true := by kernel_rfl
theorem dr106 : todoDr [] [.code (Tryz.f106.body.getD .skip)] = true := by kernel_rfl
set_option maxHeartbeats 4000000 in
set_option maxRecDepth 400000 in
theorem asked_pur (a b c k m : Int) : Pur Tryz.prog GG 106 [.agg [I a, I b, I c], I k, I m] (I (askE a b c k m)) := by
  refine Pur.of_alone ggp (by first | rfl | (simp [AV.purL, AV.pur]; done) | (simp [AV.purL, AV.pur, frS_pur (purL_map IA _ (fun _ => rfl)), purL_map U _ (fun _ => rfl)]; done) | (simp [AV.purL, AV.pur, *]; done)) (AC.of_body (c := (Tryz.f106.body.getD .skip)) Tryz.func106 rfl (by decide) ok106 ro106 (by exact (by decide : 3 ≤ 34)) ?_)
  refine walk hmix T12_ok [] 3000 0 dr106 ?_
  delta Tryz.f106
  simp only [Option.getD_some]
  simp (maxSteps := 2000000) only [T12, T11, T10, T9, T8, T7, T6, T5, T4, T3, T2, T1, T0, resA, resL, resVar, Option.some.injEq, kw0, List.size_toArray, List.length_cons, List.length_nil, Nat.zero_add, Nat.reduceAdd, List.range_succ, List.range_zero, List.nil_append, List.cons_append, List.getElem?_toArray, List.getElem?_cons_zero, Go.Ab.put, ↓opK_some, ↓guK_none, kw1, roOf, aop, ev, argTs, List.getD_cons_zero, AV.isEl.eq_2, ↓reduceIte, AV.cells.eq_1, ↓roK_ok, List.getElem?_cons_succ, ofV, aload, ty0, rdCells, upd, Nat.reduceEqDiff, Nat.le_refl, List.drop_zero, List.take_succ_cons, List.take_nil, Option.map_some, tcall, Tab.ext, g22, List.map_cons, List.map_nil, List.append_nil, aBin, aBinI, beq_eq_decide', ↓guK_some, Option.bind_some, ↓tmK_some, ↓gsK_dec, beq_self_eq_true, List.getD_cons_succ, ↓gsK_true, pickA, cond_true, ↓gdK_true, reduceCtorEq, or_true, true_and, ↓gsK_false, cond_false, ↓gdK_dec, ↓gsK_un, ↓gdK_false]
  unfold askE
  repeat' (first | apply And.intro | intro _)
  all_goals
    refine ⟨_, rfl, done_pur rfl ?_⟩
    first
      | (rw [if_neg (by assumption)]; done)
      | (rw [if_pos (by assumption), if_pos (by unfold okA; omega)]; done)
      | (rename_i hc _ _ _ _; rw [if_pos hc, if_pos (by unfold okA; omega), hc]; done)
      | (rw [if_pos (by assumption), if_neg (by unfold okA; omega)])
def g106 : List AV → Option (Prop × AV)
  | [.agg [(.c (.int .i64 a)), (.c (.int .i64 b)), (.c (.int .i64 c))], (.c (.int .i64 k)), (.c (.int .i64 m))] => some (True, I (askE a b c k m))
  | _ => none
theorem g106_ok : ∀ args p, g106 args = some p → p.1 → Pur Tryz.prog GG 106 args p.2 := by
  intro args p hp hc
  unfold g106 at hp
  split at hp
  · cases hp
    exact asked_pur _ _ _ _ _
  · cases hp
def T13 : Tab := Tab.ext T12 106 g106
theorem T13_ok : TOk Tryz.prog GG T13 := TOk.ext T12_ok g106_ok
end Go.Ab.Pd

set_option linter.unusedSimpArgs false
set_option linter.unusedVariables false
namespace Go.Ab.Pd
open Go.Proofs
theorem ask0 {a b c k m : Int} (h : askE a b c k m = 0) : okA a b c k m ∧ chk a b c = 0 := by
  unfold askE at h
  split at h
  · split at h
    · exact ⟨by assumption, by assumption⟩
    · omega
  · exact absurd h (by assumption)
theorem many_le {a b c : Int} : 0 ≤ manyV a b c ∧ manyV a b c ≤ 4096 := by
  unfold manyV
  split
  · rename_i h; have := okD_mul h; omega
  · omega
def linkV (n a b c k m : Int) : Int := if askE a b c k m = 0 ∧ ¬n = 1 then k * manyV a b c + m else 0
def linkE (n a b c k m : Int) : Int := if askE a b c k m = 0 then (if n = 1 then 6 else 0) else askE a b c k m
theorem ok119 : codeOk 32 (Tryz.f119.body.getD .skip) = true := by kernel_rfl
theorem ro119 : resOk 32 Tryz.f119.results = true := by kernel_rfl
theorem dr119 : todoDr [] [.code (Tryz.f119.body.getD .skip)] = true := by kernel_rfl
set_option maxHeartbeats 4000000 in
set_option maxRecDepth 400000 in
theorem link0_pur (a b c m : Int) : Pur Tryz.prog GG 119 [.agg [I a, I b, I c], I 0, I m] (.tup [I (linkV a a b c 0 m), I (linkE a a b c 0 m)]) := by
  refine Pur.of_alone ggp (by first | rfl | (simp [AV.purL, AV.pur]; done) | (simp [AV.purL, AV.pur, frS_pur (purL_map IA _ (fun _ => rfl)), purL_map U _ (fun _ => rfl)]; done) | (simp [AV.purL, AV.pur, *]; done)) (AC.of_body (c := (Tryz.f119.body.getD .skip)) Tryz.func119 rfl (by decide) ok119 ro119 (by exact (by decide : 3 ≤ 32)) ?_)
  refine walk hmix T13_ok [] 3000 0 dr119 ?_
  delta Tryz.f119
  simp only [Option.getD_some]
  simp (maxSteps := 2000000) only [T13, T12, T11, T10, T9, T8, T7, T6, T5, T4, T3, T2, T1, T0, resA, resL, resVar, Option.some.injEq, kw0, List.size_toArray, List.length_cons, List.length_nil, Nat.zero_add, Nat.reduceAdd, List.range_succ, List.range_zero, List.nil_append, List.cons_append, List.getElem?_toArray, List.getElem?_cons_zero, Go.Ab.put, ↓opK_some, ↓guK_none, kw1, roOf, aop, ev, argTs, List.getD_cons_zero, AV.isEl.eq_2, ↓reduceIte, AV.cells.eq_1, ↓roK_ok, List.getElem?_cons_succ, ofV, aload, ty0, rdCells, upd, Nat.reduceEqDiff, Nat.le_refl, List.drop_zero, List.take_succ_cons, List.take_nil, Option.map_some, List.getD_cons_succ, tcall, Tab.ext, g106, List.map_cons, List.map_nil, List.append_nil, aBin, aBinI, bne_eq_decide', ne_eq, decide_not, ↓gdK_not, ↓gdK_dec, Bool.not_true, aInt, Int.reduceLE, Int.reduceLT, and_self, ptrAdd, Int.toNat_zero, Nat.reduceMul, Nat.add_zero, Nat.reduceLeDiff, List.take_zero, beq_eq_decide', reduceCtorEq, or_true, true_and, g22, Bool.not_false]
  refine ⟨fun h => ?_, fun h => ⟨_, rfl, done_pur rfl (by rw [linkV, linkE, if_neg (fun hh => h hh.1), if_neg h])⟩⟩
  have hA := ask0 h
  have hm := many_le (a := a) (b := b) (c := c)
  have hA1 := hA.1
  unfold okA at hA1
  refine ⟨fun h1 => ⟨_, rfl, done_pur rfl (by rw [linkV, linkE, if_neg (fun hh => hh.2 h1), if_pos h, if_pos h1])⟩, fun h1 => ⟨_, rfl, done_pur rfl ?_⟩⟩
  rw [linkV, linkE, if_pos ⟨h, h1⟩, if_pos h, if_neg h1, wrapL (n := _ * manyV a b c) (by omega) (by omega), wrapL (by omega) (by omega)]
set_option maxHeartbeats 4000000 in
set_option maxRecDepth 400000 in
theorem link1_pur (a b c m : Int) : Pur Tryz.prog GG 119 [.agg [I a, I b, I c], I 1, I m] (.tup [I (linkV b a b c 1 m), I (linkE b a b c 1 m)]) := by
  refine Pur.of_alone ggp (by first | rfl | (simp [AV.purL, AV.pur]; done) | (simp [AV.purL, AV.pur, frS_pur (purL_map IA _ (fun _ => rfl)), purL_map U _ (fun _ => rfl)]; done) | (simp [AV.purL, AV.pur, *]; done)) (AC.of_body (c := (Tryz.f119.body.getD .skip)) Tryz.func119 rfl (by decide) ok119 ro119 (by exact (by decide : 3 ≤ 32)) ?_)
  refine walk hmix T13_ok [] 3000 0 dr119 ?_
  delta Tryz.f119
  simp only [Option.getD_some]
  simp (maxSteps := 2000000) only [T13, T12, T11, T10, T9, T8, T7, T6, T5, T4, T3, T2, T1, T0, resA, resL, resVar, Option.some.injEq, kw0, List.size_toArray, List.length_cons, List.length_nil, Nat.zero_add, Nat.reduceAdd, List.range_succ, List.range_zero, List.nil_append, List.cons_append, List.getElem?_toArray, List.getElem?_cons_zero, Go.Ab.put, ↓opK_some, ↓guK_none, kw1, roOf, aop, ev, argTs, List.getD_cons_zero, AV.isEl.eq_2, ↓reduceIte, AV.cells.eq_1, ↓roK_ok, List.getElem?_cons_succ, ofV, aload, ty0, rdCells, upd, Nat.reduceEqDiff, Nat.le_refl, List.drop_zero, List.take_succ_cons, List.take_nil, Option.map_some, List.getD_cons_succ, tcall, Tab.ext, g106, List.map_cons, List.map_nil, List.append_nil, aBin, aBinI, bne_eq_decide', ne_eq, decide_not, ↓gdK_not, ↓gdK_dec, Bool.not_true, aInt, Int.reduceLE, Int.reduceLT, and_self, ptrAdd, Int.toNat_one, Nat.reduceMul, Nat.reduceLeDiff, List.drop_succ_cons, List.take_zero, beq_eq_decide', reduceCtorEq, or_true, true_and, g22, Bool.not_false]
  refine ⟨fun h => ?_, fun h => ⟨_, rfl, done_pur rfl (by rw [linkV, linkE, if_neg (fun hh => h hh.1), if_neg h])⟩⟩
  have hA := ask0 h
  have hm := many_le (a := a) (b := b) (c := c)
  have hA1 := hA.1
  unfold okA at hA1
  refine ⟨fun h1 => ⟨_, rfl, done_pur rfl (by rw [linkV, linkE, if_neg (fun hh => hh.2 h1), if_pos h, if_pos h1])⟩, fun h1 => ⟨_, rfl, done_pur rfl ?_⟩⟩
  rw [linkV, linkE, if_pos ⟨h, h1⟩, if_pos h, if_neg h1, wrapL (n := _ * manyV a b c) (by omega) (by omega), wrapL (by omega) (by omega)]
set_option maxHeartbeats 4000000 in
set_option maxRecDepth 400000 in
theorem link2_pur (a b c m : Int) : Pur Tryz.prog GG 119 [.agg [I a, I b, I c], I 2, I m] (.tup [I (linkV c a b c 2 m), I (linkE c a b c 2 m)]) := by
  refine Pur.of_alone ggp (by first | rfl | (simp [AV.purL, AV.pur]; done) | (simp [AV.purL, AV.pur, frS_pur (purL_map IA _ (fun _ => rfl)), purL_map U _ (fun _ => rfl)]; done) | (simp [AV.purL, AV.pur, *]; done)) (AC.of_body (c := (Tryz.f119.body.getD .skip)) Tryz.func119 rfl (by decide) ok119 ro119 (by exact (by decide : 3 ≤ 32)) ?_)
  refine walk hmix T13_ok [] 3000 0 dr119 ?_
  delta Tryz.f119
  simp only [Option.getD_some]
  simp (maxSteps := 2000000) only [T13, T12, T11, T10, T9, T8, T7, T6, T5, T4, T3, T2, T1, T0, resA, resL, resVar, Option.some.injEq, kw0, List.size_toArray, List.length_cons, List.length_nil, Nat.zero_add, Nat.reduceAdd, List.range_succ, List.range_zero, List.nil_append, List.cons_append, List.getElem?_toArray, List.getElem?_cons_zero, Go.Ab.put, ↓opK_some, ↓guK_none, kw1, roOf, aop, ev, argTs, List.getD_cons_zero, AV.isEl.eq_2, ↓reduceIte, AV.cells.eq_1, ↓roK_ok, List.getElem?_cons_succ, ofV, aload, ty0, rdCells, upd, Nat.reduceEqDiff, Nat.le_refl, List.drop_zero, List.take_succ_cons, List.take_nil, Option.map_some, List.getD_cons_succ, tcall, Tab.ext, g106, List.map_cons, List.map_nil, List.append_nil, aBin, aBinI, bne_eq_decide', ne_eq, decide_not, ↓gdK_not, ↓gdK_dec, Bool.not_true, aInt, Int.reduceLE, Int.reduceLT, and_self, ptrAdd, Int.reduceToNat, Nat.reduceMul, List.drop_succ_cons, beq_eq_decide', reduceCtorEq, or_true, true_and, g22, Bool.not_false]
  refine ⟨fun h => ?_, fun h => ⟨_, rfl, done_pur rfl (by rw [linkV, linkE, if_neg (fun hh => h hh.1), if_neg h])⟩⟩
  have hA := ask0 h
  have hm := many_le (a := a) (b := b) (c := c)
  have hA1 := hA.1
  unfold okA at hA1
  refine ⟨fun h1 => ⟨_, rfl, done_pur rfl (by rw [linkV, linkE, if_neg (fun hh => hh.2 h1), if_pos h, if_pos h1])⟩, fun h1 => ⟨_, rfl, done_pur rfl ?_⟩⟩
  rw [linkV, linkE, if_pos ⟨h, h1⟩, if_pos h, if_neg h1, wrapL (n := _ * manyV a b c) (by omega) (by omega), wrapL (by omega) (by omega)]
set_option maxHeartbeats 4000000 in
set_option maxRecDepth 400000 in
theorem linkN_pur (a b c k m : Int) (hp : k < 0 ∨ 2 < k) : Pur Tryz.prog GG 119 [.agg [I a, I b, I c], I k, I m] (.tup [I 0, I (askE a b c k m)]) := by
  refine Pur.of_alone ggp (by first | rfl | (simp [AV.purL, AV.pur]; done) | (simp [AV.purL, AV.pur, frS_pur (purL_map IA _ (fun _ => rfl)), purL_map U _ (fun _ => rfl)]; done) | (simp [AV.purL, AV.pur, *]; done)) (AC.of_body (c := (Tryz.f119.body.getD .skip)) Tryz.func119 rfl (by decide) ok119 ro119 (by exact (by decide : 3 ≤ 32)) ?_)
  refine walk hmix T13_ok [] 3000 0 dr119 ?_
  delta Tryz.f119
  simp only [Option.getD_some]
  simp (maxSteps := 2000000) only [T13, T12, T11, T10, T9, T8, T7, T6, T5, T4, T3, T2, T1, T0, resA, resL, resVar, Option.some.injEq, kw0, List.size_toArray, List.length_cons, List.length_nil, Nat.zero_add, Nat.reduceAdd, List.range_succ, List.range_zero, List.nil_append, List.cons_append, List.getElem?_toArray, List.getElem?_cons_zero, Go.Ab.put, ↓opK_some, ↓guK_none, kw1, roOf, aop, ev, argTs, List.getD_cons_zero, AV.isEl.eq_2, ↓reduceIte, AV.cells.eq_1, ↓roK_ok, List.getElem?_cons_succ, ofV, aload, ty0, rdCells, upd, Nat.reduceEqDiff, Nat.le_refl, List.drop_zero, List.take_succ_cons, List.take_nil, Option.map_some, List.getD_cons_succ, tcall, Tab.ext, g106, List.map_cons, List.map_nil, List.append_nil, aBin, aBinI, bne_eq_decide', ne_eq, decide_not, ↓gdK_not, ↓gdK_dec, Bool.not_true, aInt, ptrAdd, Nat.reduceLeDiff, true_and, Bool.not_false, reduceCtorEq, or_true]
  have h0 : ¬askE a b c k m = 0 := fun h => by have := (ask0 h).1; unfold okA at this; omega
  exact ⟨fun h => absurd h h0, fun h => ⟨_, rfl, done_pur rfl rfl⟩⟩
def dimV (a b c k : Int) : Int := if k = 0 then a else if k = 1 then b else c
theorem link_pur (a b c k m : Int) : Pur Tryz.prog GG 119 [.agg [I a, I b, I c], I k, I m] (.tup [I (linkV (dimV a b c k) a b c k m), I (linkE (dimV a b c k) a b c k m)]) := by
  unfold dimV
  by_cases h0 : k = 0
  · subst h0; exact link0_pur a b c m
  · rw [if_neg h0]
    by_cases h1 : k = 1
    · subst h1; exact link1_pur a b c m
    · rw [if_neg h1]
      by_cases h2 : k = 2
      · subst h2; exact link2_pur a b c m
      · have hn : ¬askE a b c k m = 0 := fun h => by have := (ask0 h).1; unfold okA at this; omega
        rw [linkV, linkE, if_neg (fun hh => hn hh.1), if_neg hn]
        exact linkN_pur a b c k m (by omega)
def glink : List AV → Option (Prop × AV)
  | [.agg [.c (.int .i64 a), .c (.int .i64 b), .c (.int .i64 c)], .c (.int .i64 k), .c (.int .i64 m)] => some (True, .tup [I (linkV (dimV a b c k) a b c k m), I (linkE (dimV a b c k) a b c k m)])
  | _ => none
theorem glink_ok : ∀ args p, glink args = some p → p.1 → Pur Tryz.prog GG 119 args p.2 := by
  intro args p hp hc
  unfold glink at hp
  split at hp
  · cases hp
    exact link_pur _ _ _ _ _
  · cases hp
def T16 : Tab := Tab.ext T13 119 glink
theorem T16_ok : TOk Tryz.prog GG T16 := TOk.ext T13_ok glink_ok
end Go.Ab.Pd

set_option linter.unusedSimpArgs false
set_option linter.unusedVariables false
namespace Go.Ab.Pd
open Go.Proofs
abbrev U (n : Int) : AV := .c (.int .u64 n)
@[simp] theorem purL_U (ws : List Int) : AV.purL (List.map U ws) = true := by
  rw [purL_eq, List.all_eq_true]
  intro x hx
  obtain ⟨w, _, rfl⟩ := List.mem_map.1 hx
  rfl
theorem getD_U {ws : List Int} {i : Nat} (h : i < ws.length) : (List.map U ws).getD i .un = U (ws.getD i 0) := by simp [List.getD, h]
def schk (n : Int) (ws : List Int) : Int := if wordsV n < 0 then 2 else if (ws.length : Int) = wordsV n ∧ (0 < n % 64 → (ws.getD (wordsV n - 1).toNat 0).fdiv (2 ^ (n % 64).toNat) = 0) then 0 else 8
theorem ok29 : codeOk 30 (Tryz.f29.body.getD .skip) = true := by kernel_rfl
theorem ro29 : resOk 30 Tryz.f29.results = true := by kernel_rfl
theorem dr29 : todoDr [] [.code (Tryz.f29.body.getD .skip)] = true := by kernel_rfl
set_option maxHeartbeats 4000000 in
set_option maxRecDepth 400000 in
theorem scheck_pur (n : Int) (ws : List Int) : Pur Tryz.prog GG 29 [I n, .isl (ws.map U)] (I (schk n ws)) := by
  refine Pur.of_alone ggp (by first | rfl | (simp [AV.purL, AV.pur]; done) | (simp [AV.purL, AV.pur, frS_pur (purL_map IA _ (fun _ => rfl)), purL_map U _ (fun _ => rfl)]; done) | (simp [AV.purL, AV.pur, *]; done)) (AC.of_body (c := (Tryz.f29.body.getD .skip)) Tryz.func29 rfl (by decide) ok29 ro29 (by exact (by decide : 2 ≤ 30)) ?_)
  refine walk hmix T16_ok [] 3000 0 dr29 ?_
  delta Tryz.f29
  simp only [Option.getD_some]
  simp (maxSteps := 2000000) only [T16, T13, T12, T11, T10, T9, T8, T7, T6, T5, T4, T3, T2, T1, T0, resA, resL, resVar, Option.some.injEq, kw0, List.size_toArray, List.length_cons, List.length_nil, Nat.zero_add, List.range_succ, List.range_zero, List.nil_append, List.getElem?_toArray, List.getElem?_cons_zero, Go.Ab.put, gsK, Nat.reduceAdd, List.cons_append, List.getElem?_cons_succ, ev, ↓opK_some, ↓guK_none, kw1, roOf, aop, ↓roK_ok, upd, ↓reduceIte, true_and, aBin, ofV, aBinI, ty0, tcall, Tab.ext, Nat.reduceEqDiff, g61, List.map_cons, List.map_nil, List.append_nil, reduceCtorEq, argTs, List.getD_cons_zero, Option.map_some, gdK_var, or_true, bne_eq_decide', ne_eq, decide_not, List.getD_cons_succ, ty1, List.length_map, pickA, ↓guK_some, Option.bind_some, ↓tmK_some, Int.reduceEq, not_false_eq_true]
  have hw0 : decide (wordsV n < 0) = false → 1 ≤ n ∧ n ≤ 12288 := fun h => by
    unfold wordsV at h
    split at h
    · assumption
    · simp at h
  refine ⟨fun h => ?_, fun h => ⟨fun h2 => ?_, fun h2 => ?_⟩⟩
  · refine ⟨_, rfl, done_pur rfl ?_⟩
    have : wordsV n < 0 := by simpa using h
    rw [schk, if_pos this]
  · have hn : ¬wordsV n < 0 := by simpa using h
    have hl : ¬(ws.length : Int) = wordsV n := by simpa using h2
    refine ⟨fun _ => ⟨_, rfl, done_pur rfl ?_⟩, fun h3 => absurd (h2.symm.trans h3) (by simp)⟩
    rw [schk, if_neg hn, if_neg (fun hh => hl hh.1)]
  · have hn := hw0 h
    have hn0 : ¬wordsV n < 0 := by simpa using h
    have hwv : wordsV n = (n + 63) / 64 := by rw [wordsV, if_pos hn]
    have hl : (ws.length : Int) = wordsV n := by simpa using h2
    have hm : n.tmod 64 = n % 64 := Int.tmod_eq_emod_of_nonneg (by omega)
    by_cases h3 : 0 < n.tmod 64
    · have e3 : (decide (0 < n.tmod 64) == true) = true := by simp [h3]
      simp (maxSteps := 2000000) only [h3, decide_true, beq_self_eq_true, kw1, roOf, aop, ev, upd, Nat.reduceEqDiff, ↓reduceIte, argTs, List.getD_cons_succ, List.getD_cons_zero, ↓roK_ok, kw0, List.getElem?_toArray, List.getElem?_cons_succ, List.getElem?_cons_zero, Go.Ab.put, gsK, ↓opK_some, ↓guK_none, true_and, pickA, ofV, ↓guK_some, Option.bind_some, ↓tmK_some, aBin, aBinI, ty0, aInt, ty1, List.length_map, Option.map_some, aload, rdCells, List.getElem?_nil, reduceCtorEq, ty2, ne_eq, Int.reduceEq, not_false_eq_true, bne_eq_decide', decide_not, Nat.zero_add, List.drop_zero]
      have hi : (wordsV n - 1).toNat < ws.length := by omega
      rw [wrapL (n := wordsV n - 1) (by omega) (by omega)]
      simp only [getD_U hi]
      refine ⟨⟨⟨by omega, by omega⟩, rfl⟩, ?_⟩
      simp (maxSteps := 2000000) only [AV.cells.eq_2, List.length_cons, List.length_nil, Nat.zero_add, Nat.le_refl, ↓reduceIte, List.take_succ_cons, List.take, Option.map_some, ↓roK_ok, kw0, List.getElem?_toArray, List.getElem?_cons_succ, List.getElem?_cons_zero, Go.Ab.put, gsK, ev, ↓opK_some, ↓guK_none, kw1, roOf, aop, upd, true_and, pickA, ofV, ↓guK_some, Option.bind_some, Nat.reduceEqDiff, ↓tmK_some, beq_self_eq_true, aBin, aBinI, ne_eq, ty0, reduceCtorEq, argTs, List.getD_cons_zero, ty2, Int.reduceEq, not_false_eq_true, bne_eq_decide', decide_not, cond_true, gdK_var, List.size_toArray, List.range_succ, List.range_zero, List.nil_append, or_true]
      have hb : min (n.tmod 64).toNat IntKind.u64.bits = (n % 64).toNat := by
        rw [hm, show IntKind.u64.bits = 64 from rfl]; omega
      rw [hb]
      refine ⟨by omega, fun h4 => ⟨_, rfl, done_pur rfl ?_⟩, fun h4 => ⟨_, rfl, done_pur rfl ?_⟩⟩
      · have h5 : ¬(ws.getD (wordsV n - 1).toNat 0).fdiv (2 ^ (n % 64).toNat) = 0 := by simpa using h4
        rw [schk, if_neg hn0, if_neg (fun hh => h5 (hh.2 (by omega)))]
      · have h5 : (ws.getD (wordsV n - 1).toNat 0).fdiv (2 ^ (n % 64).toNat) = 0 := by simpa using h4
        rw [schk, if_neg hn0, if_pos ⟨hl, fun _ => h5⟩]
    · have e3 : (decide (0 < n.tmod 64) == true) = false := by simp [h3]
      simp (maxSteps := 2000000) only [h3, decide_false, kw1, kw0, List.getElem?_toArray, List.getElem?_cons_succ, List.getElem?_cons_zero, Go.Ab.put, gsK, ev, ↓opK_some, ↓guK_none, roOf, aop, ↓roK_ok, upd, ↓reduceIte, true_and, pickA, ofV, ↓guK_some, Option.bind_some, Nat.reduceEqDiff, ↓tmK_some, cond_false, gdK_var, Bool.false_eq_true, List.size_toArray, List.length_cons, List.length_nil, Nat.zero_add, List.range_succ, List.range_zero, List.nil_append, reduceCtorEq, or_true, false_implies, forall_const]
      refine ⟨_, rfl, done_pur rfl ?_⟩
      rw [schk, if_neg hn0, if_pos ⟨hl, fun h4 => absurd h4 (by omega)⟩]
end Go.Ab.Pd
