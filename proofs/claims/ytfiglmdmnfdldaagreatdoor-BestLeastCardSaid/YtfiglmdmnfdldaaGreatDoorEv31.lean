/- One of the texts that this claim stands on. -/
import Derived.Test.YtfiglmdmnfdldaaGreatDoorEv29
import Derived.Test.YtfiglmdmnfdldaaGreatDoorEv30
set_option linter.unusedVariables false
set_option linter.unusedSimpArgs false
set_option linter.unusedSimpArgs false
set_option linter.unusedVariables false
namespace Go.Ab.Pd
open Go.Proofs
theorem inU_0 : inU 0 := ⟨by decide, by decide⟩
theorem toNat_U {w : Int} (h : inU w) : (BitVec.ofInt IntKind.u64.bits w).toNat = w.toNat := by
  rw [BitVec.toNat_ofInt]
  have e : ((2 ^ IntKind.u64.bits : Nat) : Int) = 2 ^ 64 := by decide
  rw [e, Int.emod_eq_of_lt h.1 h.2]
theorem wrapU {n : Int} (h : inU n) : IntKind.u64.wrap n = n := by
  rw [IntKind.wrap_u64]
  exact Int.emod_eq_of_lt h.1 h.2
theorem lt_U {w : Int} (h : inU w) : w.toNat < 2 ^ 64 := by unfold inU at h; omega
theorem andW_nat {x y : Int} (hx : inU x) (hy : inU y) : andW x y = ((x.toNat &&& y.toNat : Nat) : Int) := by
  unfold andW
  rw [BitVec.toNat_and, toNat_U hx, toNat_U hy]
  have h := Nat.and_le_left (n := x.toNat) (m := y.toNat)
  have h2 := lt_U hx
  exact wrapU ⟨by omega, by omega⟩
def S1' (w : Int) : Int := IntKind.u64.wrap (IntKind.u64.wrap ((BitVec.ofInt IntKind.u64.bits (w.fdiv (2 ^ min 1 IntKind.u64.bits)) &&& BitVec.ofInt IntKind.u64.bits 6148914691236517205).toNat : Int) + IntKind.u64.wrap ((BitVec.ofInt IntKind.u64.bits w &&& BitVec.ofInt IntKind.u64.bits 6148914691236517205).toNat : Int))
def S2' (w : Int) : Int := IntKind.u64.wrap (IntKind.u64.wrap ((BitVec.ofInt IntKind.u64.bits (w.fdiv (2 ^ min 2 IntKind.u64.bits)) &&& BitVec.ofInt IntKind.u64.bits 3689348814741910323).toNat : Int) + IntKind.u64.wrap ((BitVec.ofInt IntKind.u64.bits w &&& BitVec.ofInt IntKind.u64.bits 3689348814741910323).toNat : Int))
def S3' (w : Int) : Int := IntKind.u64.wrap ((BitVec.ofInt IntKind.u64.bits (IntKind.u64.wrap (w.fdiv (2 ^ min 4 IntKind.u64.bits) + w)) &&& BitVec.ofInt IntKind.u64.bits 1085102592571150095).toNat : Int)
def S8' (w : Int) : Int := IntKind.u64.wrap (w + w.fdiv (2 ^ min 8 IntKind.u64.bits))
def S16' (w : Int) : Int := IntKind.u64.wrap (w + w.fdiv (2 ^ min 16 IntKind.u64.bits))
def S32' (w : Int) : Int := IntKind.u64.wrap (w + w.fdiv (2 ^ min 32 IntKind.u64.bits))
theorem fS1 (w : Int) : IntKind.u64.wrap (IntKind.u64.wrap ((BitVec.ofInt IntKind.u64.bits (w.fdiv (2 ^ min 1 IntKind.u64.bits)) &&& BitVec.ofInt IntKind.u64.bits 6148914691236517205).toNat : Int) + IntKind.u64.wrap ((BitVec.ofInt IntKind.u64.bits w &&& BitVec.ofInt IntKind.u64.bits 6148914691236517205).toNat : Int)) = S1' w := (rfl)
theorem fS2 (w : Int) : IntKind.u64.wrap (IntKind.u64.wrap ((BitVec.ofInt IntKind.u64.bits (w.fdiv (2 ^ min 2 IntKind.u64.bits)) &&& BitVec.ofInt IntKind.u64.bits 3689348814741910323).toNat : Int) + IntKind.u64.wrap ((BitVec.ofInt IntKind.u64.bits w &&& BitVec.ofInt IntKind.u64.bits 3689348814741910323).toNat : Int)) = S2' w := (rfl)
theorem fS3 (w : Int) : IntKind.u64.wrap ((BitVec.ofInt IntKind.u64.bits (IntKind.u64.wrap (w.fdiv (2 ^ min 4 IntKind.u64.bits) + w)) &&& BitVec.ofInt IntKind.u64.bits 1085102592571150095).toNat : Int) = S3' w := (rfl)
theorem fS8 (w : Int) : IntKind.u64.wrap (w + w.fdiv (2 ^ min 8 IntKind.u64.bits)) = S8' w := (rfl)
theorem fS16 (w : Int) : IntKind.u64.wrap (w + w.fdiv (2 ^ min 16 IntKind.u64.bits)) = S16' w := (rfl)
theorem fS32 (w : Int) : IntKind.u64.wrap (w + w.fdiv (2 ^ min 32 IntKind.u64.bits)) = S32' w := (rfl)
theorem fdiv_nat (x k : Nat) : ((x : Nat) : Int).fdiv ((k : Nat) : Int) = ((x / k : Nat) : Int) := by
  rw [Int.fdiv_eq_ediv_of_nonneg _ (by omega)]; rfl
theorem nU {x : Nat} (h : x < 2 ^ 64) : inU (x : Int) := ⟨by omega, by omega⟩
theorem S1_nat {x : Nat} (h : x < 2 ^ 64) : S1' (x : Int) = ((On.a1 8 x : Nat) : Int) ∧ On.a1 8 x < 2 ^ 64 := by
  have e : (2 : Int) ^ min 1 IntKind.u64.bits = ((2 : Nat) : Int) := by decide
  have m : On.mk 85 8 = 6148914691236517205 := by decide
  have a1 := andW_nat (x := ((x / 2 : Nat) : Int)) (y := 6148914691236517205) (nU (by omega)) ⟨by decide, by decide⟩
  have a2 := andW_nat (x := (x : Int)) (y := 6148914691236517205) (nU h) ⟨by decide, by decide⟩
  unfold andW at a1 a2
  rw [Int.toNat_natCast, show (6148914691236517205 : Int).toNat = 6148914691236517205 from rfl] at a1 a2
  have l1 := Nat.and_le_right (n := x / 2) (m := 6148914691236517205)
  have l2 := Nat.and_le_right (n := x) (m := 6148914691236517205)
  unfold S1' On.a1
  rw [e, fdiv_nat, a1, a2, m]
  generalize x / 2 &&& 6148914691236517205 = p at l1
  generalize x &&& 6148914691236517205 = q at l2
  exact ⟨(wrapU ⟨by omega, by omega⟩).trans (by omega), by omega⟩
theorem S2_nat {x : Nat} (h : x < 2 ^ 64) : S2' (x : Int) = ((On.a2 8 x : Nat) : Int) ∧ On.a2 8 x ≤ 7378697629483820646 := by
  have e : (2 : Int) ^ min 2 IntKind.u64.bits = ((4 : Nat) : Int) := by decide
  have m : On.mk 51 8 = 3689348814741910323 := by decide
  have a1 := andW_nat (x := ((x / 4 : Nat) : Int)) (y := 3689348814741910323) (nU (by omega)) ⟨by decide, by decide⟩
  have a2 := andW_nat (x := (x : Int)) (y := 3689348814741910323) (nU h) ⟨by decide, by decide⟩
  unfold andW at a1 a2
  rw [Int.toNat_natCast, show (3689348814741910323 : Int).toNat = 3689348814741910323 from rfl] at a1 a2
  have l1 := Nat.and_le_right (n := x / 4) (m := 3689348814741910323)
  have l2 := Nat.and_le_right (n := x) (m := 3689348814741910323)
  unfold S2' On.a2
  rw [e, fdiv_nat, a1, a2, m]
  generalize x / 4 &&& 3689348814741910323 = p at l1
  generalize x &&& 3689348814741910323 = q at l2
  exact ⟨(wrapU ⟨by omega, by omega⟩).trans (by omega), by omega⟩
theorem S3_nat {x : Nat} (h : x ≤ 7378697629483820646) : S3' (x : Int) = ((On.a3 8 x : Nat) : Int) ∧ On.a3 8 x ≤ 1085102592571150095 := by
  have e : (2 : Int) ^ min 4 IntKind.u64.bits = ((16 : Nat) : Int) := by decide
  have m : On.mk 15 8 = 1085102592571150095 := by decide
  have a1 := andW_nat (x := ((x / 16 + x : Nat) : Int)) (y := 1085102592571150095) (nU (by omega)) ⟨by decide, by decide⟩
  unfold andW at a1
  rw [Int.toNat_natCast, show (1085102592571150095 : Int).toNat = 1085102592571150095 from rfl] at a1
  have l1 := Nat.and_le_right (n := x / 16 + x) (m := 1085102592571150095)
  unfold S3' On.a3
  rw [e, fdiv_nat, show ((x / 16 : Nat) : Int) + (x : Int) = ((x / 16 + x : Nat) : Int) by omega, wrapU (n := ((x / 16 + x : Nat) : Int)) (nU (by omega)), a1, m]
  exact ⟨rfl, l1⟩
theorem S8_nat {x : Nat} (h : x + x / 256 < 2 ^ 64) : S8' (x : Int) = ((x + x / 256 : Nat) : Int) := by
  have e : (2 : Int) ^ min 8 IntKind.u64.bits = ((256 : Nat) : Int) := by decide
  unfold S8'
  rw [e, fdiv_nat, show (x : Int) + ((x / 256 : Nat) : Int) = ((x + x / 256 : Nat) : Int) by omega, wrapU (nU h)]
theorem S16_nat {x : Nat} (h : x + x / 65536 < 2 ^ 64) : S16' (x : Int) = ((x + x / 65536 : Nat) : Int) := by
  have e : (2 : Int) ^ min 16 IntKind.u64.bits = ((65536 : Nat) : Int) := by decide
  unfold S16'
  rw [e, fdiv_nat, show (x : Int) + ((x / 65536 : Nat) : Int) = ((x + x / 65536 : Nat) : Int) by omega, wrapU (nU h)]
theorem S32_nat {x : Nat} (h : x + x / 4294967296 < 2 ^ 64) : S32' (x : Int) = ((x + x / 4294967296 : Nat) : Int) := by
  have e : (2 : Int) ^ min 32 IntKind.u64.bits = ((4294967296 : Nat) : Int) := by decide
  unfold S32'
  rw [e, fdiv_nat, show (x : Int) + ((x / 4294967296 : Nat) : Int) = ((x + x / 4294967296 : Nat) : Int) by omega, wrapU (nU h)]
theorem last_nat {z : Nat} (h : z < 2 ^ 63) : IntKind.i64.wrap ((BitVec.ofInt IntKind.i64.bits (IntKind.i64.wrap (z : Int)) &&& BitVec.ofInt IntKind.i64.bits 127).toNat : Int) = ((z % 128 : Nat) : Int) := by
  rw [wrapL (n := (z : Int)) (by omega) (by omega), BitVec.toNat_and, BitVec.toNat_ofInt, BitVec.toNat_ofInt]
  have e : ((2 ^ IntKind.i64.bits : Nat) : Int) = 2 ^ 64 := by decide
  have e2 : ((127 : Int) % 2 ^ 64).toNat = 2 ^ 7 - 1 := by decide
  rw [e, Int.emod_eq_of_lt (a := (z : Int)) (by omega) (by omega), Int.toNat_natCast, e2, Nat.and_two_pow_sub_one_eq_mod]
  exact wrapL (by omega) (by omega)
theorem ok57 : codeOk 35 (Tryz.f57.body.getD .skip) = true := by kernel_rfl
theorem ro57 : resOk 35 Tryz.f57.results = true := by kernel_rfl
theorem dr57 : todoDr [] [.code (Tryz.f57.body.getD .skip)] = true := by kernel_rfl
set_option maxHeartbeats 4000000 in
set_option maxRecDepth 400000 in
theorem ones_ex (w : Int) : ∃ n, Pur Tryz.prog GG 57 [U w] (I n) ∧ (inU w → n = (On.ones w.toNat : Int)) := by
  apply Exists.intro
  refine ⟨?_, ?_⟩
  · refine Pur.of_alone ggp rfl (AC.of_body (c := (Tryz.f57.body.getD .skip)) Tryz.func57 rfl (by decide) ok57 ro57 (by exact (by decide : 1 ≤ 35)) ?_)
    refine walk hmix T23_ok [] 3000 0 dr57 ?_
    delta Tryz.f57
    simp only [Option.getD_some]
    simp (maxSteps := 2000000) only [T23, T22, T21, T20, T19, T18, T17, T16, T13, T12, T11, T10, T9, T8, T7, T6, T5, T4, T3, T2, T1, T0, resA, resL, resVar, Option.some.injEq, kw0, List.size_toArray, List.length_cons, List.length_nil, Nat.zero_add, List.range_succ, List.range_zero, List.nil_append, List.getElem?_toArray, List.getElem?_cons_zero, Go.Ab.put, ↓opK_some, ↓guK_none, kw1, roOf, aop, ev, ofV, ↓roK_ok, Nat.reduceAdd, List.cons_append, upd, reduceCtorEq, ↓reduceIte, argTs, List.getD_cons_zero, List.getElem?_cons_succ, aBin, aBinI, Int.reduceLE, Int.toNat_one, Option.map_some, Nat.reduceEqDiff, fS1, Int.reduceToNat, fS2, fS3, fS8, fS16, fS32, ty2, ty0, or_true, true_and]
    exact ⟨_, rfl, done_pur rfl rfl⟩
  · intro hw
    obtain ⟨x, rfl⟩ : ∃ x : Nat, w = (x : Int) := ⟨w.toNat, by unfold inU at hw; omega⟩
    have hx : x < 2 ^ 64 := by unfold inU at hw; omega
    obtain ⟨e1, l1⟩ := S1_nat hx
    obtain ⟨e2, l2⟩ := S2_nat l1
    obtain ⟨e3, l3⟩ := S3_nat l2
    have hy : On.a3 8 (On.a2 8 (On.a1 8 x)) = On.y3 8 x := rfl
    rw [hy] at e3 l3
    rw [e1, e2, e3, S8_nat (by omega), S16_nat (by omega), S32_nat (by omega), last_nat (by omega), Int.toNat_natCast]
    rfl
noncomputable def onesV (w : Int) : Int := Classical.choose (ones_ex w)
theorem onesV_pur (w : Int) : Pur Tryz.prog GG 57 [U w] (I (onesV w)) := (Classical.choose_spec (ones_ex w)).1
noncomputable def addV (acc w : Int) : Int := IntKind.i64.wrap (acc + onesV w)
theorem ok26 : codeOk 24 (Tryz.f26.body.getD .skip) = true := by kernel_rfl
theorem ro26 : resOk 24 Tryz.f26.results = true := by kernel_rfl
theorem dr26 : todoDr [] [.code (Tryz.f26.body.getD .skip)] = true := by kernel_rfl
set_option maxHeartbeats 4000000 in
set_option maxRecDepth 400000 in
theorem many_ex (n : Int) {s : AV} (q : IsSet s) : ∃ (m e : Int), Pur Tryz.prog GG 26 [I n, s] (.tup [I m, I e]) := by
  obtain ⟨e, p, r⟩ := check_ex q n
  have hpu := q.pur
  by_cases he : e = 0
  · obtain ⟨hn, ws, hw, rfl, lw⟩ := r he
    subst he
    refine ⟨ws.foldl addV 0, 0, ?_⟩
    refine Pur.of_alone ggp (by simp [AV.purL, AV.pur, purL_map U _ (fun _ => rfl)]) (AC.of_body (c := (Tryz.f26.body.getD .skip)) Tryz.func26 rfl (by decide) ok26 ro26 (by exact (by decide : 2 ≤ 24)) ?_)
    refine walk hmix T23_ok [] 3000 0 dr26 ?_
    delta Tryz.f26
    simp only [Option.getD_some]
    simp (maxSteps := 2000000) only [T23, T22, T21, T20, T19, T18, T17, T16, T13, T12, T11, T10, T9, T8, T7, T6, T5, T4, T3, T2, T1, T0, resA, resL, resVar, Option.some.injEq, kw0, List.size_toArray, List.length_cons, List.length_nil, Nat.zero_add, Nat.reduceAdd, List.range_succ, List.range_zero, List.nil_append, List.cons_append, List.getElem?_toArray, List.getElem?_cons_zero, Go.Ab.put, ↓opK_some, ↓guK_none, kw1, roOf, aop, ev, ofV, ↓roK_ok, List.getElem?_cons_succ, upd, reduceCtorEq, ↓reduceIte, argTs, List.getD_cons_zero, Nat.reduceEqDiff, List.getD_cons_succ, tcall, Tab.ext, Tab.nil, List.map_cons, List.map_nil, ↓roK_call, true_and]
    refine AC.pur p ?_
    refine walk hmix T23_ok [] 3000 0 (by kernel_rfl) ?_
    simp (maxSteps := 2000000) only [T23, T22, T21, T20, T19, T18, T17, T16, T13, T12, T11, T10, T9, T8, T7, T6, T5, T4, T3, T2, T1, T0, kw0, List.getElem?_toArray, List.getElem?_cons_succ, List.getElem?_cons_zero, Go.Ab.put, ↓opK_some, ↓guK_none, kw1, roOf, aop, ev, upd, ↓reduceIte, ↓roK_ok, List.size_toArray, List.length_cons, List.length_nil, Nat.zero_add, Nat.reduceAdd, List.range_succ, List.range_zero, List.nil_append, List.cons_append, aBin, ofV, aBinI, bne_eq_decide', ne_eq, not_true_eq_false, decide_false, Option.map_some, ↓gdK_false, Nat.reduceEqDiff, argTs, List.getD_cons_succ, List.getD_cons_zero, ty1, true_and]
    refine FW.loopInv (fun l ts H => ∃ (i : Nat) (acc : Int), i + l = ws.length ∧ (ws.drop i).foldl addV acc = ws.foldl addV 0 ∧ ts 4 = I acc ∧ ts 5 = I 0 ∧ ts 13 = .isl (ws.map U) ∧ ts 14 = I (ws.map U).length ∧ ts 15 = I (i : Int)) ws.length
      ⟨0, 0, by omega, rfl, rfl, rfl, rfl, rfl, rfl⟩ ?_
    rintro l ih ts H ⟨i, acc, hi, hes, t4, t5, t13, t14, t15⟩
    rw [List.length_map] at t14
    refine FW.inLoop ?_
    by_cases hlt : i < ws.length
    · have hd1 : decide ((i : Int) < (ws.length : Int)) = true := by simp [hlt]
      have hgd := getD_map U ws 0 hlt
      obtain ⟨l, rfl⟩ : ∃ l', l = l' + 1 := ⟨l - 1, by omega⟩
      rw [drop_cons 0 hlt] at hes
      generalize ws.getD i 0 = w at hgd hes
      refine walk hmix T23_ok [] 3000 0 (by kernel_rfl) ?_
      simp (maxSteps := 2000000) only [T23, T22, T21, T20, T19, T18, T17, T16, T13, T12, T11, T10, T9, T8, T7, T6, T5, T4, T3, T2, T1, T0, kw0, List.size_toArray, List.length_cons, List.length_nil, Nat.zero_add, List.range_succ, List.range_zero, List.nil_append, List.getElem?_toArray, List.getElem?_cons_zero, Go.Ab.put, ↓opK_some, ↓guK_none, kw1, roOf, aop, aBin, ev, t15, t14, aBinI, ↓reduceIte, hd1, Option.map_some, ↓roK_ok, upd, ↓gdK_true, Nat.reduceAdd, List.cons_append, aInt, Nat.reduceEqDiff, t13, ty1, List.length_map, Int.toNat_natCast, hgd, AV.cells.eq_2, and_true, List.getElem?_cons_succ, aload, rdCells, Nat.le_refl, List.drop_zero, List.take_succ_cons, List.take_nil, t4, tcall, Tab.ext, Tab.nil, List.map_cons, List.map_nil, ↓roK_call, true_and]
      refine ⟨by omega, ?_⟩
      refine AC.pur (onesV_pur w) ?_
      refine walk hmix T23_ok [] 3000 0 (by kernel_rfl) ?_
      simp (maxSteps := 2000000) only [T23, T22, T21, T20, T19, T18, T17, T16, T13, T12, T11, T10, T9, T8, T7, T6, T5, T4, T3, T2, T1, T0, kw0, List.getElem?_toArray, List.getElem?_cons_succ, List.getElem?_cons_zero, Go.Ab.put, ↓opK_some, ↓guK_none, kw1, roOf, aop, aBin, ev, upd, Nat.reduceEqDiff, ↓reduceIte, aBinI, Option.map_some, ↓roK_ok, List.size_toArray, List.length_cons, List.length_nil, Nat.zero_add, Nat.reduceAdd, List.range_succ, List.range_zero, List.nil_append, List.cons_append, t15, ofV, true_and]
      rw [wrapL (n := (i : Int) + 1) (by omega) (by omega)]
      exact ih l (by omega) _ _ ⟨i + 1, addV acc w, by omega, by rw [← hes]; rfl, rfl, t5, t13, by rw [List.length_map]; exact t14, rfl⟩
    · have hd1 : decide ((i : Int) < (ws.length : Int)) = false := by simp; omega
      refine walk hmix T23_ok [] 3000 0 (by kernel_rfl) ?_
      simp (maxSteps := 2000000) only [T23, T22, T21, T20, T19, T18, T17, T16, T13, T12, T11, T10, T9, T8, T7, T6, T5, T4, T3, T2, T1, T0, kw0, List.size_toArray, List.length_cons, List.length_nil, Nat.zero_add, List.range_succ, List.range_zero, List.nil_append, List.getElem?_toArray, List.getElem?_cons_zero, Go.Ab.put, ↓opK_some, ↓guK_none, kw1, roOf, aop, aBin, ev, t15, t14, aBinI, ↓reduceIte, hd1, Option.map_some, ↓roK_ok, upd, ↓gdK_false, exitTo, beq_self_eq_true, reduceCtorEq, or_false, Nat.reduceEqDiff, t4, t5, ↓exK_some, or_true, true_and]
      rw [List.drop_eq_nil_of_le (by omega)] at hes
      have hes' : acc = ws.foldl addV 0 := hes
      exact ⟨_, rfl, done_pur rfl (by rw [hes'])⟩
  · refine ⟨0, e, ?_⟩
    refine Pur.of_alone ggp (by simp [AV.purL, AV.pur, hpu]) (AC.of_body (c := (Tryz.f26.body.getD .skip)) Tryz.func26 rfl (by decide) ok26 ro26 (by exact (by decide : 2 ≤ 24)) ?_)
    refine walk hmix T23_ok [] 3000 0 dr26 ?_
    delta Tryz.f26
    simp only [Option.getD_some]
    simp (maxSteps := 2000000) only [T23, T22, T21, T20, T19, T18, T17, T16, T13, T12, T11, T10, T9, T8, T7, T6, T5, T4, T3, T2, T1, T0, resA, resL, resVar, Option.some.injEq, kw0, List.size_toArray, List.length_cons, List.length_nil, Nat.zero_add, Nat.reduceAdd, List.range_succ, List.range_zero, List.nil_append, List.cons_append, List.getElem?_toArray, List.getElem?_cons_zero, Go.Ab.put, ↓opK_some, ↓guK_none, kw1, roOf, aop, ev, ofV, ↓roK_ok, List.getElem?_cons_succ, upd, reduceCtorEq, ↓reduceIte, argTs, List.getD_cons_zero, Nat.reduceEqDiff, List.getD_cons_succ, tcall, Tab.ext, Tab.nil, List.map_cons, List.map_nil, ↓roK_call, true_and]
    refine AC.pur p ?_
    refine walk hmix T23_ok [] 3000 0 (by kernel_rfl) ?_
    simp (maxSteps := 2000000) only [T23, T22, T21, T20, T19, T18, T17, T16, T13, T12, T11, T10, T9, T8, T7, T6, T5, T4, T3, T2, T1, T0, kw0, List.getElem?_toArray, List.getElem?_cons_succ, List.getElem?_cons_zero, Go.Ab.put, ↓opK_some, ↓guK_none, kw1, roOf, aop, ev, upd, ↓reduceIte, ↓roK_ok, List.size_toArray, List.length_cons, List.length_nil, Nat.zero_add, Nat.reduceAdd, List.range_succ, List.range_zero, List.nil_append, List.cons_append, aBin, ofV, aBinI, bne_eq_decide', ne_eq, he, not_false_eq_true, decide_true, Option.map_some, ↓gdK_true, reduceCtorEq, or_true, Nat.reduceEqDiff, true_and]
    exact ⟨_, rfl, done_pur rfl rfl⟩
theorem ok76 : codeOk 34 (Tryz.f76.body.getD .skip) = true := by kernel_rfl
theorem ro76 : resOk 34 Tryz.f76.results = true := by kernel_rfl
theorem dr76 : todoDr [] [.code (Tryz.f76.body.getD .skip)] = true := by kernel_rfl
end Go.Ab.Pd
