/- One of the texts that this claim stands on. -/
import Derived.Test.YtfiglmdmnfdldaaGreatDoorEv29
import Derived.Test.YtfiglmdmnfdldaaGreatDoorEv31
import Derived.Test.YtfiglmdmnfdldaaGreatDoorEv39
import Derived.Test.YtfiglmdmnfdldaaGreatDoorEv33
import Derived.Test.YtfiglmdmnfdldaaGreatDoorEv37
import Derived.Test.YtfiglmdmnfdldaaGreatDoorEv12
set_option linter.unusedVariables false
set_option linter.unusedSimpArgs false
set_option linter.unusedSimpArgs false
set_option linter.unusedVariables false
namespace Go.Ab.Pd
open Go.Proofs
def tzI (w : Int) : Int := (IntKind.u64.wrap (IntKind.u64.wrap ((BitVec.ofInt IntKind.u64.bits w &&& BitVec.ofInt IntKind.u64.bits (IntKind.u64.wrap (0 - w))).toNat : Int) * 285870213051353865)).fdiv (2 ^ (min 58 IntKind.u64.bits))
theorem tzI_lt (w : Int) : 0 ≤ tzI w ∧ (tzI w).toNat < 64 := by
  unfold tzI
  have h := wrap_inU (IntKind.u64.wrap ((BitVec.ofInt IntKind.u64.bits w &&& BitVec.ofInt IntKind.u64.bits (IntKind.u64.wrap (0 - w))).toNat : Int) * 285870213051353865)
  generalize IntKind.u64.wrap (IntKind.u64.wrap ((BitVec.ofInt IntKind.u64.bits w &&& BitVec.ofInt IntKind.u64.bits (IntKind.u64.wrap (0 - w))).toNat : Int) * 285870213051353865) = x at h
  unfold inU at h
  rw [show (2 : Int) ^ (min 58 IntKind.u64.bits) = 288230376151711744 by decide, Int.fdiv_eq_ediv_of_nonneg _ (by decide)]
  omega
theorem tab0_len : tab0.length = 64 := by rfl
theorem tab0_u8 : ∀ i, i < 64 → ∃ n : Int, tab0.getD i .un = .c (.int .u8 n) := by
  intro i hi
  refine ⟨(match tab0.getD i .un with | .c (.int _ n) => n | _ => 0), ?_⟩
  have : ∀ j : Fin 64, ∃ n, tab0.getD j.1 .un = .c (.int .u8 n) := by
    intro j
    have hm : tab0.getD j.1 .un ∈ tab0 := by
      rw [show tab0.getD j.1 .un = tab0[j.1]'(by rw [tab0_len]; exact j.2) by simp [List.getD, tab0_len]]
      exact List.getElem_mem _
    unfold tab0 at hm
    obtain ⟨n, _, hn⟩ := List.mem_map.1 hm
    exact ⟨n, hn.symm⟩
  obtain ⟨n, hn⟩ := this ⟨i, hi⟩
  simp only at hn
  rw [hn]
theorem tab_drop {i : Nat} {v : AV} (hi : i < 64) (h : tab0.getD i .un = v) : (tab0.drop i).take 1 = [v] := by
  have hl : i < tab0.length := by rw [tab0_len]; exact hi
  rw [List.drop_eq_getElem_cons hl, List.take_succ_cons, List.take_zero]
  simp only [List.getD, List.getElem?_eq_getElem hl, Option.getD_some] at h
  rw [h]
theorem tab_le {i : Nat} (hi : i < 64) : (i + 1 ≤ tab0.length) = True := by
  rw [tab0_len]
  exact eq_true hi
theorem GGat0 : GG 0 = some tab0 := (rfl)
theorem ok101 : codeOk 14 (Tryz.f101.body.getD .skip) = true := by kernel_rfl
theorem ro101 : resOk 14 Tryz.f101.results = true := by kernel_rfl
theorem dr101 : todoDr [] [.code (Tryz.f101.body.getD .skip)] = true := by kernel_rfl
set_option maxHeartbeats 4000000 in
set_option maxRecDepth 400000 in
theorem tz_zero (w : Int) (hp : w = 0) : Pur Tryz.prog GG 101 [U w] (I 64) := by
  have hd : decide (w = 0) = true := decide_eq_true hp
  refine Pur.of_alone ggp (by first | rfl | (simp [AV.purL, AV.pur]; done) | (simp [AV.purL, AV.pur, frS_pur (purL_map IA _ (fun _ => rfl)), purL_map U _ (fun _ => rfl)]; done) | (simp [AV.purL, AV.pur, *]; done)) (AC.of_body (c := (Tryz.f101.body.getD .skip)) Tryz.func101 rfl (by decide) ok101 ro101 (by exact (by decide : 1 ≤ 14)) ?_)
  refine walk hmix T23_ok [] 3000 0 dr101 ?_
  delta Tryz.f101
  simp only [Option.getD_some]
  simp (maxSteps := 2000000) only [T23, T22, T21, T20, T19, T18, T17, T16, T13, T12, T11, T10, T9, T8, T7, T6, T5, T4, T3, T2, T1, T0, resA, resL, resVar, Option.some.injEq, kw0, List.size_toArray, List.length_cons, List.length_nil, Nat.zero_add, List.range_succ, List.range_zero, List.nil_append, List.getElem?_toArray, List.getElem?_cons_zero, Go.Ab.put, ↓opK_some, ↓guK_none, kw1, roOf, aop, ev, ofV, ↓roK_ok, Nat.reduceAdd, List.cons_append, upd, reduceCtorEq, ↓reduceIte, argTs, List.getD_cons_zero, List.getElem?_cons_succ, aBin, aBinI, beq_eq_decide', hd, Option.map_some, ↓gdK_true, or_true, true_and]
  exact ⟨_, rfl, done_pur rfl rfl⟩
set_option maxHeartbeats 4000000 in
set_option maxRecDepth 400000 in
theorem tz_pos (w m q : Int) (hp : ¬w = 0 ∧ tab0.getD q.toNat .un = .c (.int .u8 m) ∧ (0 ≤ q ∧ q.toNat < 64) ∧ (IntKind.u64.wrap (IntKind.u64.wrap ((BitVec.ofInt IntKind.u64.bits w &&& BitVec.ofInt IntKind.u64.bits (IntKind.u64.wrap (0 - w))).toNat : Int) * 285870213051353865)).fdiv (2 ^ (min 58 IntKind.u64.bits)) = q) : Pur Tryz.prog GG 101 [U w] (I (IntKind.i64.wrap m)) := by
  obtain ⟨hw, hm, hq, hi⟩ := hp
  have hd : decide (w = 0) = false := decide_eq_false hw
  have hrd := tab_drop hq.2 hm
  have hle := tab_le hq.2
  refine Pur.of_alone ggp (by first | rfl | (simp [AV.purL, AV.pur]; done) | (simp [AV.purL, AV.pur, frS_pur (purL_map IA _ (fun _ => rfl)), purL_map U _ (fun _ => rfl)]; done) | (simp [AV.purL, AV.pur, *]; done)) (AC.of_body (c := (Tryz.f101.body.getD .skip)) Tryz.func101 rfl (by decide) ok101 ro101 (by exact (by decide : 1 ≤ 14)) ?_)
  refine walk hmix T23_ok [] 3000 0 dr101 ?_
  delta Tryz.f101
  simp only [Option.getD_some]
  simp (maxSteps := 2000000) only [T23, T22, T21, T20, T19, T18, T17, T16, T13, T12, T11, T10, T9, T8, T7, T6, T5, T4, T3, T2, T1, T0, resA, resL, resVar, Option.some.injEq, kw0, List.size_toArray, List.length_cons, List.length_nil, Nat.zero_add, List.range_succ, List.range_zero, List.nil_append, List.getElem?_toArray, List.getElem?_cons_zero, Go.Ab.put, ↓opK_some, ↓guK_none, kw1, roOf, aop, ev, ofV, ↓roK_ok, Nat.reduceAdd, List.cons_append, upd, reduceCtorEq, ↓reduceIte, argTs, List.getD_cons_zero, List.getElem?_cons_succ, aBin, aBinI, beq_eq_decide', hd, Option.map_some, ↓gdK_false, Nat.reduceEqDiff, Int.reduceLE, Int.reduceToNat, hi, aInt, ty5, ptrAdd, Nat.mul_one, aload, ty0, rdCells, GGat0, hle, hrd, or_true, true_and]
  exact ⟨by omega, _, rfl, done_pur rfl rfl⟩
def tzV (w : Int) : Int := if w = 0 then 64 else match tab0.getD (tzI w).toNat .un with
  | .c (.int _ m) => IntKind.i64.wrap m
  | _ => 0
theorem tzV_pur (w : Int) : Pur Tryz.prog GG 101 [U w] (I (tzV w)) := by
  unfold tzV
  by_cases hw : w = 0
  · rw [if_pos hw]
    exact tz_zero w hw
  · rw [if_neg hw]
    obtain ⟨m, hm⟩ := tab0_u8 (tzI w).toNat (tzI_lt w).2
    rw [hm]
    exact tz_pos w m _ ⟨hw, hm, tzI_lt w, rfl⟩
end Go.Ab.Pd

set_option linter.unusedSimpArgs false
set_option linter.unusedVariables false
namespace Go.Ab.Pd
open Go.Proofs
def andV (x y : Int) : Int := IntKind.u64.wrap ((BitVec.ofInt IntKind.u64.bits x &&& BitVec.ofInt IntKind.u64.bits y).toNat : Int)
def dropV (w : Int) : Int := andV w (IntKind.u64.wrap (w - 1))
theorem nat_drop {n k : Nat} (h0 : 0 < n) (h : 2 ^ k ∣ n) : 2 ^ (k + 1) ∣ (n &&& (n - 1)) := by
  obtain ⟨q, rfl⟩ := h
  apply Nat.dvd_of_mod_eq_zero
  rw [Nat.and_mod_two_pow]
  have hk : 0 < 2 ^ k := Nat.two_pow_pos k
  rcases Nat.mod_two_eq_zero_or_one q with hq | hq
  · obtain ⟨j, rfl⟩ : ∃ j, q = 2 * j := ⟨q / 2, by omega⟩
    rw [show 2 ^ k * (2 * j) = 2 ^ (k + 1) * j by rw [Nat.pow_succ, Nat.mul_assoc], Nat.mul_mod_right, Nat.zero_and]
  · obtain ⟨j, rfl⟩ : ∃ j, q = 2 * j + 1 := ⟨q / 2, by omega⟩
    have e1 : 2 ^ k * (2 * j + 1) = 2 ^ k + 2 ^ (k + 1) * j := by rw [Nat.mul_add, Nat.mul_one, Nat.pow_succ, Nat.mul_assoc, Nat.add_comm]
    have e2 : 2 ^ k * (2 * j + 1) - 1 = (2 ^ k - 1) + 2 ^ (k + 1) * j := by rw [e1]; omega
    rw [e2, e1, Nat.add_mul_mod_self_left, Nat.add_mul_mod_self_left, Nat.mod_eq_of_lt (by rw [Nat.pow_succ]; omega), Nat.mod_eq_of_lt (by rw [Nat.pow_succ]; omega), Nat.and_two_pow_sub_one_eq_mod, Nat.mod_self]
theorem dropV_nat {w : Int} (h : inU w) (h0 : ¬w = 0) : dropV w = ((w.toNat &&& (w.toNat - 1) : Nat) : Int) := by
  unfold inU at h
  obtain ⟨n, rfl⟩ : ∃ n : Nat, w = n := ⟨w.toNat, by omega⟩
  unfold dropV andV
  have e1 : IntKind.u64.wrap ((n : Int) - 1) = ((n - 1 : Nat) : Int) := by rw [IntKind.wrap_u64]; omega
  rw [e1, IntKind.wrap_u64, BitVec.toNat_and]
  have b1 : (BitVec.ofInt IntKind.u64.bits (n : Int)).toNat = n := by
    rw [BitVec.ofInt_natCast, BitVec.toNat_ofNat]
    exact Nat.mod_eq_of_lt (by show n < 2 ^ 64; omega)
  have b2 : (BitVec.ofInt IntKind.u64.bits ((n - 1 : Nat) : Int)).toNat = n - 1 := by
    rw [BitVec.ofInt_natCast, BitVec.toNat_ofNat]
    exact Nat.mod_eq_of_lt (by show n - 1 < 2 ^ 64; omega)
  rw [b1, b2, Int.toNat_natCast]
  have : n &&& (n - 1) ≤ n := Nat.and_le_left
  omega
def Lft (m : Nat) (w : Int) : Prop := inU w ∧ m ≤ 64 ∧ 2 ^ (64 - m) ∣ w.toNat
theorem Lft.zero {w : Int} (h : Lft 0 w) : w = 0 := by
  obtain ⟨h1, _, h2⟩ := h
  unfold inU at h1
  have : w.toNat < 2 ^ 64 := by omega
  have := Nat.eq_zero_of_dvd_of_lt h2 this
  omega
theorem Lft.drop {m : Nat} {w : Int} (h : Lft (m + 1) w) (h0 : ¬w = 0) : Lft m (dropV w) := by
  obtain ⟨h1, h2, h3⟩ := h
  refine ⟨wrap_inU _, by omega, ?_⟩
  rw [dropV_nat h1 h0, Int.toNat_natCast, show 64 - m = (64 - (m + 1)) + 1 by omega]
  unfold inU at h1
  exact nat_drop (by omega) h3
theorem Lft.start {w : Int} (h : inU w) : Lft 64 w := ⟨h, by omega, by simp⟩
def wordL (i : Int) : Nat → Int → List Int
  | 0, _ => []
  | m + 1, w => if w = 0 then [] else IntKind.i64.wrap (IntKind.i64.wrap (64 * i) + tzV w) :: wordL i m (dropV w)
theorem wordL_length (i : Int) : ∀ (m : Nat) (w : Int), (wordL i m w).length ≤ m
  | 0, w => by simp [wordL]
  | m + 1, w => by
    unfold wordL
    split
    · simp
    · have := wordL_length i m (dropV w)
      simp; omega
def listL (ws : List Int) : List Int := upto (fun i => wordL i 64 (ws.getD i.toNat 0)) 0 ws.length
theorem listL_length (ws : List Int) : (listL ws).length ≤ ws.length * 64 := upto_le _ 64 _ _ fun i _ _ => wordL_length _ _ _
theorem ok74 : codeOk 35 (Tryz.f74.body.getD .skip) = true := by kernel_rfl
theorem ro74 : resOk 35 Tryz.f74.results = true := by kernel_rfl
theorem dr74 : todoDr [] [.code (Tryz.f74.body.getD .skip)] = true := by kernel_rfl
set_option maxHeartbeats 4000000 in
set_option maxRecDepth 400000 in
theorem list_is (n : Int) {ws : List Int} (hw : ∀ w ∈ ws, inU w) (lw : ws.length ≤ 192) (p : Pur Tryz.prog GG 29 [I n, .isl (ws.map U)] (I 0)) : Pur Tryz.prog GG 74 [I n, .isl (ws.map U)] (.tup [frS ((listL ws).map IA), I 0]) := by
  have hll := listL_length ws
  refine Pur.of_alone ggp (by simp [AV.purL, AV.pur, purL_map U _ (fun _ => rfl)]) (AC.of_body (c := (Tryz.f74.body.getD .skip)) Tryz.func74 rfl (by decide) ok74 ro74 (by exact (by decide : 2 ≤ 35)) ?_)
  refine walk hmix T23_ok [] 3000 0 dr74 ?_
  delta Tryz.f74
  simp only [Option.getD_some]
  simp (maxSteps := 2000000) only [T23, T22, T21, T20, T19, T18, T17, T16, T13, T12, T11, T10, T9, T8, T7, T6, T5, T4, T3, T2, T1, T0, resA, resL, resVar, Option.some.injEq, kw0, List.size_toArray, List.length_cons, List.length_nil, Nat.zero_add, Nat.reduceAdd, List.range_succ, List.range_zero, List.nil_append, List.cons_append, List.getElem?_toArray, List.getElem?_cons_zero, Go.Ab.put, ↓opK_some, ↓guK_none, kw1, roOf, aop, ev, ofV, ↓roK_ok, List.getElem?_cons_succ, upd, reduceCtorEq, ↓reduceIte, argTs, List.getD_cons_zero, Nat.reduceEqDiff, List.getD_cons_succ, tcall, Tab.ext, Tab.nil, List.map_cons, List.map_nil, ↓roK_call, true_and]
  refine AC.pur p ?_
  refine walk hmix T23_ok [] 3000 0 (by kernel_rfl) ?_
  simp (maxSteps := 2000000) only [T23, T22, T21, T20, T19, T18, T17, T16, T13, T12, T11, T10, T9, T8, T7, T6, T5, T4, T3, T2, T1, T0, kw0, List.getElem?_toArray, List.getElem?_cons_succ, List.getElem?_cons_zero, Go.Ab.put, ↓opK_some, ↓guK_none, kw1, roOf, aop, ev, upd, ↓reduceIte, ↓roK_ok, List.size_toArray, List.length_cons, List.length_nil, Nat.zero_add, Nat.reduceAdd, List.range_succ, List.range_zero, List.nil_append, List.cons_append, aBin, ofV, aBinI, bne_eq_decide', ne_eq, not_true_eq_false, decide_false, Option.map_some, ↓gdK_false, Nat.reduceEqDiff, argTs, List.getD_cons_succ, List.getD_cons_zero, ty1, true_and]
  refine FW.loopInv (fun l ts H => ∃ (i : Nat) (es : List Int) (sl : AV), i + l = ws.length ∧ es ++ upto (fun i => wordL i 64 (ws.getD i.toNat 0)) (i : Int) l = listL ws ∧ Own H sl (es.map IA) ∧
    ts 4 = sl ∧ ts 5 = I 0 ∧ ts 13 = .isl (ws.map U) ∧ ts 14 = I (ws.map U).length ∧ ts 15 = I (i : Int)) ws.length
    ⟨0, [], _, by omega, rfl, .nil, rfl, rfl, rfl, rfl, rfl⟩ ?_
  rintro l ih ts H ⟨i, es, sl, hi, hes, hown, t4, t5, t13, t14, t15⟩
  rw [List.length_map] at t14
  refine FW.inLoop ?_
  by_cases hlt : i < ws.length
  · have hd1 : decide ((i : Int) < (ws.length : Int)) = true := by simp [hlt]
    have hgd := getD_map U ws 0 hlt
    have hiu : inU (ws.getD i 0) := hw _ (by rw [show ws.getD i 0 = ws[i] by simp [List.getD, hlt]]; exact List.getElem_mem hlt)
    obtain ⟨l, rfl⟩ : ∃ l', l = l' + 1 := ⟨l - 1, by omega⟩
    rw [upto_succ, Int.toNat_natCast] at hes
    generalize ws.getD i 0 = w at hgd hiu hes
    have hi1 := wrapL (n := (i : Int) + 1) (by omega) (by omega)
    by_cases hw0 : w = 0
    · subst hw0
      refine walk hmix T23_ok [] 3000 0 (by kernel_rfl) ?_
      simp (maxSteps := 2000000) only [T23, T22, T21, T20, T19, T18, T17, T16, T13, T12, T11, T10, T9, T8, T7, T6, T5, T4, T3, T2, T1, T0, kw0, List.size_toArray, List.length_cons, List.length_nil, Nat.zero_add, List.range_succ, List.range_zero, List.nil_append, List.getElem?_toArray, List.getElem?_cons_zero, Go.Ab.put, ↓opK_some, ↓guK_none, kw1, roOf, aop, aBin, ev, t15, t14, aBinI, ↓reduceIte, hd1, Option.map_some, ↓roK_ok, upd, ↓gdK_true, Nat.reduceAdd, List.cons_append, Nat.reduceEqDiff, List.getElem?_cons_succ, aInt, t13, ty1, List.length_map, Int.toNat_natCast, hgd, AV.cells.eq_2, and_true, aload, rdCells, Nat.le_refl, List.drop_zero, List.take_succ_cons, List.take_nil, ofV, bne_eq_decide', ne_eq, not_true_eq_false, decide_false, ↓gdK_false, hi1, true_and]
      refine ⟨by omega, ?_⟩
      exact ih l (by omega) _ _ ⟨i + 1, es, sl, by omega, by simpa [wordL] using hes, hown, t4, t5, t13, by rw [List.length_map]; exact t14, rfl⟩
    · refine walk hmix T23_ok [] 3000 0 (by kernel_rfl) ?_
      simp (maxSteps := 2000000) only [T23, T22, T21, T20, T19, T18, T17, T16, T13, T12, T11, T10, T9, T8, T7, T6, T5, T4, T3, T2, T1, T0, kw0, List.size_toArray, List.length_cons, List.length_nil, Nat.zero_add, List.range_succ, List.range_zero, List.nil_append, List.getElem?_toArray, List.getElem?_cons_zero, Go.Ab.put, ↓opK_some, ↓guK_none, kw1, roOf, aop, aBin, ev, t15, t14, aBinI, ↓reduceIte, hd1, Option.map_some, ↓roK_ok, upd, ↓gdK_true, Nat.reduceAdd, List.cons_append, Nat.reduceEqDiff, List.getElem?_cons_succ, aInt, t13, ty1, List.length_map, Int.toNat_natCast, hgd, AV.cells.eq_2, and_true, aload, rdCells, Nat.le_refl, List.drop_zero, List.take_succ_cons, List.take_nil, ofV, bne_eq_decide', ne_eq, hw0, not_false_eq_true, decide_true, t4, tcall, Tab.ext, Tab.nil, List.map_cons, List.map_nil, ↓roK_call, true_and]
      refine ⟨by omega, ?_⟩
      refine AC.pur (tzV_pur w) ?_
      have hap := fun v => aApp1 (P := Tryz.prog) un92 un92 ze3 rfl by3 hown v
      have hel := len_le_of_append hes
      refine walk hmix T23_ok [] 3000 0 (by kernel_rfl) ?_
      simp (maxSteps := 2000000) only [T23, T22, T21, T20, T19, T18, T17, T16, T13, T12, T11, T10, T9, T8, T7, T6, T5, T4, T3, T2, T1, T0, kw0, List.getElem?_toArray, List.getElem?_cons_succ, List.getElem?_cons_zero, Go.Ab.put, ↓opK_some, ↓guK_none, kw1, roOf, aop, aBin, ev, upd, Nat.reduceEqDiff, ↓reduceIte, aBinI, Option.map_some, ↓roK_ok, ty2, ty0, AV.cells.eq_2, List.length_cons, List.length_nil, Nat.zero_add, Nat.reduceMul, Nat.reducePow, Nat.reduceLeDiff, slv, List.reduceReplicate, ofV, List.map_cons, List.map_nil, aFillEs, AV.isEl.eq_2, Nat.reduceLT, and_self, List.set_cons_zero, aop2, hap, List.size_toArray, Nat.reduceAdd, List.range_succ, List.range_zero, List.nil_append, List.cons_append, true_and]
      refine ⟨apC_of (by rw [List.length_map]; omega) (by decide), ?_⟩
      refine FW.loopInv (fun m ts H => ∃ (w : Int) (es : List Int) (sl : AV), Lft m w ∧ es ++ (wordL (i : Int) m w ++ upto (fun i => wordL i 64 (ws.getD i.toNat 0)) ((i : Int) + 1) l) = listL ws ∧ Own H sl (es.map IA) ∧
        ts 4 = sl ∧ ts 5 = I 0 ∧ ts 6 = I (i : Int) ∧ ts 7 = U w ∧ ts 13 = .isl (ws.map U) ∧ ts 14 = I ws.length ∧ ts 15 = I (i : Int)) 63
        ⟨dropV w, es ++ [IntKind.i64.wrap (IntKind.i64.wrap (64 * (i : Int)) + tzV w)], .sl (H.length + 1) 0 ((es.map IA).length + 1) ((es.map IA).length + 1), (Lft.start hiu).drop hw0,
          by rw [← hes]; simp [wordL, hw0], apI, rfl, t5, rfl, rfl, t13, t14, t15⟩ ?_
      clear hgd hiu hes hw0 hown t4 t5 t13 t14 t15 hap hel
      rintro m ihm ts H ⟨w, es, sl, hlf, hes, hown, t4, t5, t6, t7, t13, t14, t15⟩
      refine FW.goto rfl ?_
      by_cases hw0 : w = 0
      · subst hw0
        refine walk hmix T23_ok [] 3000 0 (by kernel_rfl) ?_
        simp (maxSteps := 2000000) only [T23, T22, T21, T20, T19, T18, T17, T16, T13, T12, T11, T10, T9, T8, T7, T6, T5, T4, T3, T2, T1, T0, kw0, List.size_toArray, List.length_cons, List.length_nil, Nat.zero_add, Nat.reduceAdd, List.range_succ, List.range_zero, List.nil_append, List.cons_append, List.getElem?_toArray, List.getElem?_cons_zero, Go.Ab.put, ↓opK_some, ↓guK_none, kw1, roOf, aop, ev, t7, ↓roK_ok, List.getElem?_cons_succ, aBin, upd, ↓reduceIte, ofV, aBinI, bne_eq_decide', ne_eq, not_true_eq_false, decide_false, Option.map_some, ↓gdK_false, Nat.reduceEqDiff, t15, hi1, true_and]
        have hz : wordL (i : Int) m 0 = [] := by cases m <;> simp [wordL]
        rw [hz] at hes
        exact ih l (by omega) _ _ ⟨i + 1, es, sl, by omega, by simpa using hes, hown, t4, t5, t13, by rw [List.length_map]; exact t14, rfl⟩
      · obtain ⟨m, rfl⟩ : ∃ m', m = m' + 1 := ⟨m - 1, by
          have : m ≠ 0 := fun e => hw0 (by subst e; exact hlf.zero)
          omega⟩
        refine walk hmix T23_ok [] 3000 0 (by kernel_rfl) ?_
        simp (maxSteps := 2000000) only [T23, T22, T21, T20, T19, T18, T17, T16, T13, T12, T11, T10, T9, T8, T7, T6, T5, T4, T3, T2, T1, T0, kw0, List.size_toArray, List.length_cons, List.length_nil, Nat.zero_add, Nat.reduceAdd, List.range_succ, List.range_zero, List.nil_append, List.cons_append, List.getElem?_toArray, List.getElem?_cons_zero, Go.Ab.put, ↓opK_some, ↓guK_none, kw1, roOf, aop, ev, t7, ↓roK_ok, List.getElem?_cons_succ, aBin, upd, ↓reduceIte, ofV, aBinI, bne_eq_decide', ne_eq, hw0, not_false_eq_true, decide_true, Option.map_some, ↓gdK_true, Nat.reduceEqDiff, t4, t6, tcall, Tab.ext, Tab.nil, List.map_cons, List.map_nil, ↓roK_call, true_and]
        refine AC.pur (tzV_pur w) ?_
        have hap := fun v => aApp1 (P := Tryz.prog) un92 un92 ze3 rfl by3 hown v
        have hel := len_le_of_append hes
        refine walk hmix T23_ok [] 3000 0 (by kernel_rfl) ?_
        simp (maxSteps := 2000000) only [T23, T22, T21, T20, T19, T18, T17, T16, T13, T12, T11, T10, T9, T8, T7, T6, T5, T4, T3, T2, T1, T0, kw0, List.getElem?_toArray, List.getElem?_cons_succ, List.getElem?_cons_zero, Go.Ab.put, ↓opK_some, ↓guK_none, kw1, roOf, aop, aBin, ev, upd, Nat.reduceEqDiff, ↓reduceIte, aBinI, Option.map_some, ↓roK_ok, ty2, ty0, AV.cells.eq_2, List.length_cons, List.length_nil, Nat.zero_add, Nat.reduceMul, Nat.reducePow, Nat.reduceLeDiff, slv, List.reduceReplicate, ofV, List.map_cons, List.map_nil, aFillEs, AV.isEl.eq_2, Nat.reduceLT, and_self, List.set_cons_zero, aop2, hap, List.size_toArray, Nat.reduceAdd, List.range_succ, List.range_zero, List.nil_append, List.cons_append, t7, true_and]
        refine ⟨apC_of (by rw [List.length_map]; omega) (by decide), ?_⟩
        exact ihm m (by omega) _ _ ⟨dropV w, es ++ [IntKind.i64.wrap (IntKind.i64.wrap (64 * (i : Int)) + tzV w)], .sl (H.length + 1) 0 ((es.map IA).length + 1) ((es.map IA).length + 1), hlf.drop hw0,
          by rw [← hes]; simp [wordL, hw0], apI, rfl, t5, t6, rfl, t13, t14, t15⟩
  · have hd1 : decide ((i : Int) < (ws.length : Int)) = false := by simp; omega
    have hl : l = 0 := by omega
    subst hl
    refine walk hmix T23_ok [] 3000 0 (by kernel_rfl) ?_
    simp (maxSteps := 2000000) only [T23, T22, T21, T20, T19, T18, T17, T16, T13, T12, T11, T10, T9, T8, T7, T6, T5, T4, T3, T2, T1, T0, kw0, List.size_toArray, List.length_cons, List.length_nil, Nat.zero_add, List.range_succ, List.range_zero, List.nil_append, List.getElem?_toArray, List.getElem?_cons_zero, Go.Ab.put, ↓opK_some, ↓guK_none, kw1, roOf, aop, aBin, ev, t15, t14, aBinI, ↓reduceIte, hd1, Option.map_some, ↓roK_ok, upd, ↓gdK_false, exitTo, beq_self_eq_true, reduceCtorEq, or_false, Nat.reduceEqDiff, t4, t5, ↓exK_some, or_true, true_and]
    simp only [upto, List.append_nil] at hes
    subst hes
    obtain ⟨m', hm'⟩ := hown.done2 (v := I 0) (purL_map IA _ (fun _ => rfl)) rfl
    exact ⟨_, rfl, m', hm'⟩
end Go.Ab.Pd

set_option linter.unusedSimpArgs false
set_option linter.unusedVariables false
namespace Go.Ab.Pd
open Go.Proofs
theorem ok75 : codeOk 6 (Tryz.f75.body.getD .skip) = true := by kernel_rfl
theorem ro75 : resOk 6 Tryz.f75.results = true := by kernel_rfl
theorem dr75 : todoDr [] [.code (Tryz.f75.body.getD .skip)] = true := by kernel_rfl
set_option maxHeartbeats 4000000 in
set_option maxRecDepth 400000 in
theorem sides_pur (a b c m : Int) : Pur Tryz.prog GG 75 [.agg [I a, I b, I c], I m] (.fn 102 [] [.iptr [I a, I b, I c] 0, .iptr [I m] 0]) := by
  refine Pur.of_alone ggp (by first | rfl | (simp [AV.purL, AV.pur]; done) | (simp [AV.purL, AV.pur, frS_pur (purL_map IA _ (fun _ => rfl)), purL_map U _ (fun _ => rfl)]; done) | (simp [AV.purL, AV.pur, *]; done)) (AC.of_body (c := (Tryz.f75.body.getD .skip)) Tryz.func75 rfl (by decide) ok75 ro75 (by exact (by decide : 2 ≤ 6)) ?_)
  refine walk hmix T23_ok [] 3000 0 dr75 ?_
  delta Tryz.f75
  simp only [Option.getD_some]
  simp (maxSteps := 2000000) only [T23, T22, T21, T20, T19, T18, T17, T16, T13, T12, T11, T10, T9, T8, T7, T6, T5, T4, T3, T2, T1, T0, resA, resL, resVar, Option.some.injEq, kw0, List.size_toArray, List.length_cons, List.length_nil, Nat.zero_add, Nat.reduceAdd, List.range_succ, List.range_zero, List.nil_append, List.cons_append, List.getElem?_toArray, List.getElem?_cons_zero, Go.Ab.put, ↓opK_some, ↓guK_none, kw1, roOf, aop, ev, argTs, List.getD_cons_zero, AV.isEl.eq_2, ↓reduceIte, AV.cells.eq_1, ↓roK_ok, List.getElem?_cons_succ, upd, Nat.reduceEqDiff, List.getD_cons_succ, AV.cells.eq_2, ofV, List.map_nil, List.map_cons, reduceCtorEq, or_true, true_and]
  exact ⟨_, rfl, 3, rfl⟩
def g75 : List AV → Option (Prop × AV)
  | [.agg [(.c (.int .i64 a)), (.c (.int .i64 b)), (.c (.int .i64 c))], (.c (.int .i64 m))] => some (True, .fn 102 [] [.iptr [I a, I b, I c] 0, .iptr [I m] 0])
  | _ => none
theorem g75_ok : ∀ args p, g75 args = some p → p.1 → Pur Tryz.prog GG 75 args p.2 := by
  intro args p hp hc
  unfold g75 at hp
  split at hp
  · cases hp
    exact sides_pur _ _ _ _
  · cases hp
def T24 : Tab := Tab.ext T23 75 g75
theorem T24_ok : TOk Tryz.prog GG T24 := TOk.ext T23_ok g75_ok
def sideL (a b c m k : Int) : List Int := if dimV a b c k = 1 then [] else [stV a b c m k 1, stV a b c m k (-1)]
def sidesL (a b c m : Int) : List Int := upto (sideL a b c m) 0 3
theorem ok102 : codeOk 35 (Tryz.f102.body.getD .skip) = true := by kernel_rfl
theorem ro102 : resOk 35 Tryz.f102.results = true := by kernel_rfl
theorem dr102 : todoDr [] [.code (Tryz.f102.body.getD .skip)] = true := by kernel_rfl
set_option maxHeartbeats 8000000 in
set_option maxRecDepth 400000 in
theorem sides1 {a b c m : Int} {id : Nat} {H : List AO} {K : AV → List AO → Prop} (h : afterL Tryz.prog GG id K (sidesL a b c m) H) :
    AC Tryz.prog GG 102 [.yld id, .iptr [I a, I b, I c] 0, .iptr [I m] 0] H K := by
  refine AC.of_body (c := (Tryz.f102.body.getD .skip)) Tryz.func102 rfl (by decide) ok102 ro102 (by exact (by decide : 3 ≤ 35)) ?_
  refine walk hmix T24_ok [] 3000 0 dr102 ?_
  delta Tryz.f102
  simp only [Option.getD_some]
  simp (maxSteps := 2000000) only [T24, T23, T22, T21, T20, T19, T18, T17, T16, T13, T12, T11, T10, T9, T8, T7, T6, T5, T4, T3, T2, T1, T0, Int.reduceNeg, resA, resL, Option.some.injEq, kw0, List.size_toArray, List.length_cons, List.length_nil, Nat.zero_add, Nat.reduceAdd, List.range_succ, List.range_zero, List.nil_append, List.cons_append, List.getElem?_toArray, List.getElem?_cons_zero, Go.Ab.put, ↓opK_some, ↓guK_none, kw1, roOf, aop, aload, ty0, rdCells, ev, argTs, List.getD_cons_succ, List.getD_cons_zero, Nat.le_refl, ↓reduceIte, List.drop_zero, List.take_succ_cons, List.take_nil, Option.map_some, ↓roK_ok, List.getElem?_cons_succ, ofV, true_and]
  refine FW.loopInv (fun l ts H => ∃ k : Int, k + (l : Int) = 3 ∧ 0 ≤ k ∧ afterL Tryz.prog GG id K (upto (sideL a b c m) k l) H ∧ ts 0 = .yld id ∧ ts 1 = .iptr [I a, I b, I c] 0 ∧ ts 2 = .iptr [I m] 0 ∧ ts 10 = .agg [I a, I b, I c] ∧ ts 11 = I k) 3
    ⟨0, by omega, by omega, h, rfl, rfl, rfl, rfl, rfl⟩ ?_
  clear h
  rintro l ih ts H ⟨k, hk, hk0, h, t0, t1, t2, t10, t11⟩
  refine FW.inLoop ?_
  have hkk : (l = 3 ∧ k = 0) ∨ (l = 2 ∧ k = 1) ∨ (l = 1 ∧ k = 2) ∨ (l = 0 ∧ k = 3) := by omega
  have e0 : dimV a b c 0 = a := rfl
  have e1 : dimV a b c 1 = b := rfl
  have e2 : dimV a b c 2 = c := rfl
  obtain ⟨q0, hq0⟩ : ∃ q, q = dimV a b c k := ⟨_, rfl⟩
  rcases hkk with ⟨rfl, rfl⟩ | ⟨rfl, rfl⟩ | ⟨rfl, rfl⟩ | ⟨rfl, rfl⟩
  rotate_left 3
  · refine walk hmix T24_ok [] 3000 3 (by kernel_rfl) ?_
    simp (maxSteps := 2000000) only [T24, T23, T22, T21, T20, T19, T18, T17, T16, T13, T12, T11, T10, T9, T8, T7, T6, T5, T4, T3, T2, T1, T0, Int.reduceNeg, kw0, List.size_toArray, List.length_cons, List.length_nil, Nat.zero_add, List.range_succ, List.range_zero, List.nil_append, List.getElem?_toArray, List.getElem?_cons_zero, Go.Ab.put, ↓opK_some, ↓guK_none, kw1, roOf, aop, aBin, ev, t11, ofV, aBinI, ↓reduceIte, Int.reduceLT, decide_false, Option.map_some, ↓roK_ok, upd, ↓gdK_false, exitTo, beq_self_eq_true, reduceCtorEq, or_false, ↓exK_some, sy_nil, true_and]
    exact ⟨_, rfl, h⟩
  all_goals
    rw [upto_succ] at h
    unfold sideL at h
    simp only [e0, e1, e2] at h hq0
    by_cases hd : q0 = 1
    · subst hq0
      rw [if_pos hd] at h
      refine walk hmix T24_ok [] 3000 3 (by kernel_rfl) ?_
      simp (maxSteps := 2000000) only [T24, T23, T22, T21, T20, T19, T18, T17, T16, T13, T12, T11, T10, T9, T8, T7, T6, T5, T4, T3, T2, T1, T0, Int.reduceNeg, kw0, List.size_toArray, List.length_cons, List.length_nil, Nat.zero_add, List.range_succ, List.range_zero, List.nil_append, List.getElem?_toArray, List.getElem?_cons_zero, Go.Ab.put, ↓opK_some, ↓guK_none, kw1, roOf, aop, aBin, ev, t11, ofV, aBinI, ↓reduceIte, Int.reduceLT, decide_true, Option.map_some, ↓roK_ok, upd, ↓gdK_true, Nat.reduceAdd, List.cons_append, Nat.reduceEqDiff, List.getElem?_cons_succ, aInt, aIdx, ty0, t10, hd, Int.reduceLE, Int.cast_ofNat_Int, and_self, aPart, Int.toNat_zero, Nat.reduceMul, aBuild, ty4, List.map_cons, List.map_nil, aFill, AV.isEl.eq_2, AV.cells.eq_2, Nat.reduceLeDiff, splice, List.take_zero, List.drop_succ_cons, List.drop_zero, Nat.le_refl, List.take_succ_cons, List.drop_nil, List.append_nil, beq_self_eq_true, exitTo, reduceCtorEq, or_false, ↓exK_some, Int.zero_add, wrapL, Int.toNat_one, Int.reduceAdd, decide_false, ↓gdK_false, true_and, Int.reduceToNat]
      exact ih _ (by decide) _ _ ⟨_, by decide, by decide, h, t0, t1, t2, t10, rfl⟩
    · have hd' : decide (q0 = 1) = false := decide_eq_false hd
      subst hq0
      rw [if_neg hd] at h
      refine walk hmix T24_ok [] 3000 1 (by kernel_rfl) ?_
      simp (maxSteps := 2000000) only [T24, T23, T22, T21, T20, T19, T18, T17, T16, T13, T12, T11, T10, T9, T8, T7, T6, T5, T4, T3, T2, T1, T0, Int.reduceNeg, kw0, List.size_toArray, List.length_cons, List.length_nil, Nat.zero_add, List.range_succ, List.range_zero, List.nil_append, List.getElem?_toArray, List.getElem?_cons_zero, Go.Ab.put, ↓opK_some, ↓guK_none, kw1, roOf, aop, aBin, ev, t11, ofV, aBinI, ↓reduceIte, Int.reduceLT, decide_true, Option.map_some, ↓roK_ok, upd, ↓gdK_true, Nat.reduceAdd, List.cons_append, Nat.reduceEqDiff, List.getElem?_cons_succ, aInt, aIdx, ty0, t10, Int.reduceLE, Int.cast_ofNat_Int, and_self, aPart, Int.toNat_zero, Nat.reduceMul, aBuild, ty4, List.map_cons, List.map_nil, aFill, AV.isEl.eq_2, AV.cells.eq_2, Nat.reduceLeDiff, splice, List.take_zero, List.drop_succ_cons, List.drop_zero, Nat.le_refl, List.take_succ_cons, List.drop_nil, List.append_nil, beq_eq_decide', hd', ↓gdK_false, aload, rdCells, t1, List.take_nil, t2, tcall, Tab.ext, gstep, reduceCtorEq, t0, ↓roK_call, true_and, Int.toNat_one, Int.reduceToNat]
      refine ACV.mono (callee := .yld id) h ?_
      rintro v H1 ⟨hf, ht, q, rfl⟩
      cases q
      · have hK := hf rfl
        refine walk hmix T24_ok [] 3000 0 (by kernel_rfl) ?_
        simp (maxSteps := 2000000) only [T24, T23, T22, T21, T20, T19, T18, T17, T16, T13, T12, T11, T10, T9, T8, T7, T6, T5, T4, T3, T2, T1, T0, Int.reduceNeg, kw0, List.getElem?_toArray, List.getElem?_cons_succ, List.getElem?_cons_zero, Go.Ab.put, ↓opK_some, ↓guK_none, kw1, roOf, aop, ev, upd, ↓reduceIte, Bool.not_false, ↓roK_ok, ↓gdK_true, reduceCtorEq, or_true, true_and]
        exact ⟨_, rfl, hK⟩
      · have hn := ht rfl
        refine walk hmix T24_ok [] 3000 1 (by kernel_rfl) ?_
        simp (maxSteps := 2000000) only [T24, T23, T22, T21, T20, T19, T18, T17, T16, T13, T12, T11, T10, T9, T8, T7, T6, T5, T4, T3, T2, T1, T0, Int.reduceNeg, kw0, List.getElem?_toArray, List.getElem?_cons_succ, List.getElem?_cons_zero, Go.Ab.put, ↓opK_some, ↓guK_none, kw1, roOf, aop, ev, upd, ↓reduceIte, Bool.not_true, ↓roK_ok, ↓gdK_false, List.size_toArray, List.length_cons, List.length_nil, Nat.zero_add, Nat.reduceAdd, List.range_succ, List.range_zero, List.nil_append, List.cons_append, aBin, Nat.reduceEqDiff, ofV, aBinI, Int.zero_add, Int.reduceLE, Int.reduceLT, wrapL, Option.map_some, decide_true, ↓gdK_true, aInt, aIdx, ty4, ty0, Int.cast_ofNat_Int, and_self, aPart, Int.toNat_one, Nat.reduceMul, beq_eq_decide', hd', aload, rdCells, t1, Nat.le_refl, List.drop_zero, List.take_succ_cons, List.take_nil, t2, tcall, Tab.ext, gstep, List.map_cons, List.map_nil, List.append_nil, reduceCtorEq, t0, ↓roK_call, true_and]
        refine ACV.mono (callee := .yld id) hn ?_
        rintro v H2 ⟨hf, ht, q, rfl⟩
        cases q
        · have hK := hf rfl
          refine walk hmix T24_ok [] 3000 0 (by kernel_rfl) ?_
          simp (maxSteps := 2000000) only [T24, T23, T22, T21, T20, T19, T18, T17, T16, T13, T12, T11, T10, T9, T8, T7, T6, T5, T4, T3, T2, T1, T0, Int.reduceNeg, kw0, List.getElem?_toArray, List.getElem?_cons_succ, List.getElem?_cons_zero, Go.Ab.put, ↓opK_some, ↓guK_none, kw1, roOf, aop, ev, upd, ↓reduceIte, Bool.not_false, ↓roK_ok, ↓gdK_true, reduceCtorEq, or_true, true_and]
          exact ⟨_, rfl, hK⟩
        · have hn := ht rfl
          refine walk hmix T24_ok [] 3000 1 (by kernel_rfl) ?_
          simp (maxSteps := 2000000) only [T24, T23, T22, T21, T20, T19, T18, T17, T16, T13, T12, T11, T10, T9, T8, T7, T6, T5, T4, T3, T2, T1, T0, Int.reduceNeg, kw0, List.getElem?_toArray, List.getElem?_cons_succ, List.getElem?_cons_zero, Go.Ab.put, ↓opK_some, ↓guK_none, kw1, roOf, aop, ev, upd, ↓reduceIte, Bool.not_true, ↓roK_ok, ↓gdK_false, List.size_toArray, List.length_cons, List.length_nil, Nat.zero_add, Nat.reduceAdd, List.range_succ, List.range_zero, List.nil_append, List.cons_append, aBin, Nat.reduceEqDiff, ofV, aBinI, Int.reduceAdd, Int.reduceLE, Int.reduceLT, wrapL, Option.map_some, decide_false, exitTo, beq_self_eq_true, reduceCtorEq, or_false, ↓exK_some, t11, Int.zero_add, true_and]
          exact ih _ (by decide) _ _ ⟨_, by decide, by decide, hn, t0, t1, t2, t10, rfl⟩
theorem ok38 : codeOk 30 (Tryz.f38.body.getD .skip) = true := by kernel_rfl
theorem ro38 : resOk 30 Tryz.f38.results = true := by kernel_rfl
theorem dr38 : todoDr [] [.code (Tryz.f38.body.getD .skip)] = true := by kernel_rfl
set_option maxHeartbeats 4000000 in
set_option maxRecDepth 400000 in
theorem sckd_ac {a b c : Int} {s : AV} (hd : okD a b c) (p : Pur Tryz.prog GG 29 [I (manyV a b c), s] (I 0)) (q : IsSet s) {H : List AO} {id : Nat} (hid : H[id]? = some (.arr 1 [s]))
    {K : AV → List AO → Prop} (hK : ∀ l, K (.tup [I (manyV a b c), I 0]) (H ++ l)) : AC Tryz.prog GG 38 [.agg [I a, I b, I c], .sl id 0 1 1] H K := by
  obtain ⟨a1, a2, a3⟩ := q.cell
  have hck := chk_ok.2 hd
  have hid2 : ∀ l, (H ++ l)[id]? = some (.arr 1 [s]) := fun l => by rw [List.getElem?_append_left (lt_of_get hid)]; exact hid
  refine AC.of_body (c := (Tryz.f38.body.getD .skip)) Tryz.func38 rfl (by decide) ok38 ro38 (by exact (by decide : 2 ≤ 30)) ?_
  refine walk hmix T24_ok [] 3000 1 dr38 ?_
  delta Tryz.f38
  simp only [Option.getD_some]
  simp (maxSteps := 2000000) only [T24, T23, T22, T21, T20, T19, T18, T17, T16, T13, T12, T11, T10, T9, T8, T7, T6, T5, T4, T3, T2, T1, T0, resA, resL, resVar, Option.some.injEq, kw0, List.size_toArray, List.length_cons, List.length_nil, Nat.zero_add, Nat.reduceAdd, List.range_succ, List.range_zero, List.nil_append, List.cons_append, List.getElem?_toArray, List.getElem?_cons_zero, Go.Ab.put, ↓opK_some, ↓guK_none, kw1, roOf, aop, ev, argTs, List.getD_cons_zero, AV.isEl.eq_2, ↓reduceIte, AV.cells.eq_1, ↓roK_ok, List.getElem?_cons_succ, ofV, aload, ty0, rdCells, upd, Nat.reduceEqDiff, get_concat, Nat.le_refl, List.drop_zero, List.take_succ_cons, List.take_nil, Option.map_some, tcall, Tab.ext, g22, List.map_cons, List.map_nil, List.append_nil, hck, List.getD_cons_succ, ty3, Int.cast_ofNat_Int, aBin, aBinI, Int.reduceLT, decide_true, ↓gdK_true, aInt, hid2, Int.reduceLE, and_self, Int.toNat_zero, Nat.add_zero, ty1, Nat.reduceLT, a3, beq_self_eq_true, ↓guK_some, Option.bind_some, ↓tmK_some, ↓gsK_true, Tab.nil, ↓roK_call, true_and]
  refine AC.pur p ?_
  refine walk hmix T24_ok [] 3000 1 (by kernel_rfl) ?_
  simp (maxSteps := 2000000) only [T24, T23, T22, T21, T20, T19, T18, T17, T16, T13, T12, T11, T10, T9, T8, T7, T6, T5, T4, T3, T2, T1, T0, kw0, List.getElem?_toArray, List.getElem?_cons_succ, List.getElem?_cons_zero, Go.Ab.put, ↓opK_some, ↓guK_some, Option.bind_some, ↓tmK_some, kw1, upd, Nat.reduceEqDiff, ↓reduceIte, ↓gsK_true, beq_self_eq_true, roOf, aop, aBin, ev, ofV, aBinI, bne_eq_decide', ne_eq, not_true_eq_false, decide_false, Option.map_some, ↓roK_ok, ↓guK_none, pickA, cond_true, ↓gdK_false, List.size_toArray, List.length_cons, List.length_nil, Nat.zero_add, Nat.reduceAdd, List.range_succ, List.range_zero, List.nil_append, List.cons_append, Int.zero_add, Int.reduceNeg, Int.reduceLE, Int.reduceLT, wrapL, exitTo, reduceCtorEq, or_false, ↓exK_some, or_true, true_and]
  exact ⟨_, rfl, hK _⟩
end Go.Ab.Pd

set_option linter.unusedSimpArgs false
set_option linter.unusedVariables false
namespace Go.Ab.Pd
open Go.Proofs
def andnV (x y : Int) : Int := IntKind.u64.wrap ((BitVec.ofInt IntKind.u64.bits x &&& ~~~(BitVec.ofInt IntKind.u64.bits y)).toNat : Int)
theorem ok73 : codeOk 8 (Tryz.f73.body.getD .skip) = true := by kernel_rfl
theorem ro73 : resOk 8 Tryz.f73.results = true := by kernel_rfl
theorem dr73 : todoDr [] [.code (Tryz.f73.body.getD .skip)] = true := by kernel_rfl
set_option maxHeartbeats 4000000 in
set_option maxRecDepth 400000 in
theorem andn_pur (x y : Int) : Pur Tryz.prog GG 73 [U x, U y] (U (andnV x y)) := by
  refine Pur.of_alone ggp (by first | rfl | (simp [AV.purL, AV.pur]; done) | (simp [AV.purL, AV.pur, frS_pur (purL_map IA _ (fun _ => rfl)), purL_map U _ (fun _ => rfl)]; done) | (simp [AV.purL, AV.pur, *]; done)) (AC.of_body (c := (Tryz.f73.body.getD .skip)) Tryz.func73 rfl (by decide) ok73 ro73 (by exact (by decide : 2 ≤ 8)) ?_)
  refine walk hmix T23_ok [] 3000 0 dr73 ?_
  delta Tryz.f73
  simp only [Option.getD_some]
  simp (maxSteps := 2000000) only [T23, T22, T21, T20, T19, T18, T17, T16, T13, T12, T11, T10, T9, T8, T7, T6, T5, T4, T3, T2, T1, T0, resA, resL, resVar, Option.some.injEq, kw0, List.size_toArray, List.length_cons, List.length_nil, Nat.zero_add, List.range_succ, List.range_zero, List.nil_append, List.getElem?_toArray, List.getElem?_cons_zero, Go.Ab.put, ↓opK_some, ↓guK_none, kw1, roOf, aop, ev, ofV, ↓roK_ok, Nat.reduceAdd, List.cons_append, upd, reduceCtorEq, ↓reduceIte, argTs, List.getD_cons_zero, List.getElem?_cons_succ, Nat.reduceEqDiff, List.getD_cons_succ, aBin, aBinI, Option.map_some, or_true, true_and]
  exact ⟨_, rfl, done_pur rfl rfl⟩
def g73 : List AV → Option (Prop × AV)
  | [(.c (.int .u64 x)), (.c (.int .u64 y))] => some (True, U (andnV x y))
  | _ => none
theorem g73_ok : ∀ args p, g73 args = some p → p.1 → Pur Tryz.prog GG 73 args p.2 := by
  intro args p hp hc
  unfold g73 at hp
  split at hp
  · cases hp
    exact andn_pur _ _
  · cases hp
def T28 : Tab := Tab.ext T23 73 g73
theorem T28_ok : TOk Tryz.prog GG T28 := TOk.ext T23_ok g73_ok
theorem andn_inU (x y : Int) : inU (andnV x y) := wrap_inU _
theorem ok39 : codeOk 14 (Tryz.f39.body.getD .skip) = true := by kernel_rfl
theorem ro39 : resOk 14 Tryz.f39.results = true := by kernel_rfl
theorem dr39 : todoDr [] [.code (Tryz.f39.body.getD .skip)] = true := by kernel_rfl
set_option maxHeartbeats 4000000 in
set_option maxRecDepth 400000 in
theorem less_of {n e : Int} {s1 s2 s : AV} (hp : Pur Tryz.prog GG 19 [I n, s1, s2, .fn 73 [] []] (.tup [s, I e])) (h1 : s1.pur = true) (h2 : s2.pur = true) (h3 : s.pur = true) : Pur Tryz.prog GG 39 [I n, s1, s2] (.tup [s, I e]) := by
  refine Pur.of_alone ggp (by simp [AV.purL, AV.pur, h1, h2]) (AC.of_body (c := (Tryz.f39.body.getD .skip)) Tryz.func39 rfl (by decide) ok39 ro39 (by exact (by decide : 3 ≤ 14)) ?_)
  refine walk hmix T28_ok [] 3000 0 dr39 ?_
  delta Tryz.f39
  simp only [Option.getD_some]
  simp (maxSteps := 2000000) only [T28, T23, T22, T21, T20, T19, T18, T17, T16, T13, T12, T11, T10, T9, T8, T7, T6, T5, T4, T3, T2, T1, T0, resA, resL, resVar, Option.some.injEq, kw0, List.size_toArray, List.length_cons, List.length_nil, Nat.zero_add, Nat.reduceAdd, List.range_succ, List.range_zero, List.nil_append, List.cons_append, List.getElem?_toArray, List.getElem?_cons_zero, Go.Ab.put, ↓opK_some, ↓guK_none, kw1, roOf, aop, ev, ofV, ↓roK_ok, List.getElem?_cons_succ, upd, reduceCtorEq, ↓reduceIte, argTs, List.getD_cons_zero, Nat.reduceEqDiff, List.getD_cons_succ, tcall, Tab.ext, Tab.nil, List.map_cons, List.map_nil, ↓roK_call, true_and]
  refine AC.pur hp ?_
  refine walk hmix T28_ok [] 3000 0 (by kernel_rfl) ?_
  simp (maxSteps := 2000000) only [T28, T23, T22, T21, T20, T19, T18, T17, T16, T13, T12, T11, T10, T9, T8, T7, T6, T5, T4, T3, T2, T1, T0, kw0, List.getElem?_toArray, List.getElem?_cons_succ, List.getElem?_cons_zero, Go.Ab.put, ↓opK_some, ↓guK_none, kw1, roOf, aop, ev, upd, ↓reduceIte, Option.map_some, ↓roK_ok, Nat.reduceEqDiff, reduceCtorEq, or_true, true_and]
  exact ⟨_, rfl, done_pur (by simp [AV.pur, AV.purL, h3]) rfl⟩
theorem less_is (n : Int) {xs ys : List Int} (hx : ∀ w ∈ xs, inU w) (hy : ∀ w ∈ ys, inU w) (hlen : xs.length = ys.length) (h0 : 0 < xs.length) (hl : xs.length ≤ 2 ^ 16) (p1 : Pur Tryz.prog GG 29 [I n, .isl (xs.map U)] (I 0)) (p2 : Pur Tryz.prog GG 29 [I n, .isl (ys.map U)] (I 0)) :
    Pur Tryz.prog GG 39 [I n, .isl (xs.map U), .isl (ys.map U)] (.tup [.isl ((List.zipWith andnV xs ys).map U), I 0]) :=
  less_of (joined_ok n andn_pur hx hy hlen h0 hl p1 p2) (IsSet.isl hx).pur (IsSet.isl hy).pur (IsSet.isl (zip_inU andn_inU xs ys)).pur
end Go.Ab.Pd

set_option linter.unusedSimpArgs false
set_option linter.unusedVariables false
namespace Go.Ab.Pd
open Go.Proofs
def allL (n : Int) : List Int := upto (fun i => [i]) 0 n.toNat
theorem allL_length (n : Int) : (allL n).length = n.toNat := by unfold allL; rw [upto_length _ 1 _ _ (fun _ _ _ => rfl), Nat.mul_one]
theorem allL_mem {n k : Int} (h : k ∈ allL n) : 0 ≤ k ∧ k < n := by
  obtain ⟨i, h1, h2, h3⟩ := mem_upto h
  rw [List.mem_singleton] at h3
  subst h3
  omega
theorem ok40 : codeOk 34 (Tryz.f40.body.getD .skip) = true := by kernel_rfl
theorem ro40 : resOk 34 Tryz.f40.results = true := by kernel_rfl
theorem dr40 : todoDr [] [.code (Tryz.f40.body.getD .skip)] = true := by kernel_rfl
set_option maxHeartbeats 4000000 in
set_option maxRecDepth 400000 in
theorem others_of {n e : Int} (hn : 1 ≤ n ∧ n ≤ 4096) {s s' : AV} (q : IsSet s) (hs' : IsSet s') (hless : Pur Tryz.prog GG 39 [I n, .isl ((ofL n (allL n)).map U), s] (.tup [s', I e])) : Pur Tryz.prog GG 40 [I n, s] s' := by
  have hof := of_set_pur n (allL n) ⟨by omega, fun k hk => allL_mem hk, by rw [allL_length]; omega⟩
  have hpu := q.pur
  refine Pur.of_alone ggp (by simp [AV.purL, AV.pur, hpu]) (AC.of_body (c := (Tryz.f40.body.getD .skip)) Tryz.func40 rfl (by decide) ok40 ro40 (by exact (by decide : 2 ≤ 34)) ?_)
  refine walk hmix T24_ok [] 3000 0 dr40 ?_
  delta Tryz.f40
  simp only [Option.getD_some]
  simp (maxSteps := 2000000) only [T24, T23, T22, T21, T20, T19, T18, T17, T16, T13, T12, T11, T10, T9, T8, T7, T6, T5, T4, T3, T2, T1, T0, resA, resL, resVar, Option.some.injEq, kw0, List.size_toArray, List.length_cons, List.length_nil, Nat.zero_add, List.range_succ, List.range_zero, List.nil_append, List.getElem?_toArray, List.getElem?_cons_zero, Go.Ab.put, ↓opK_some, ↓guK_none, kw1, roOf, aop, ev, ofV, ↓roK_ok, Nat.reduceAdd, List.cons_append, upd, reduceCtorEq, ↓reduceIte, argTs, List.getD_cons_zero, List.getElem?_cons_succ, true_and]
  refine FW.loopInv (fun l ts H => ∃ (i : Int) (es : List Int) (sl : AV), i + (l : Int) = n ∧ 0 ≤ i ∧ es ++ upto (fun i => [i]) i l = allL n ∧ Own H sl (es.map IA) ∧ ts 0 = I n ∧ ts 1 = s ∧ ts 5 = sl ∧ ts 11 = I n ∧ ts 12 = I i) n.toNat
    ⟨0, [], _, by omega, by omega, rfl, .nil, rfl, rfl, rfl, rfl, rfl⟩ ?_
  rintro l ih ts H ⟨i, es, sl, hi, hi0, hes, hown, t0, t1, t5, t11, t12⟩
  refine FW.inLoop ?_
  by_cases hlt : i < n
  · have hd1 : decide (i < n) = true := decide_eq_true hlt
    obtain ⟨l, rfl⟩ : ∃ l', l = l' + 1 := ⟨l - 1, by omega⟩
    rw [upto_succ] at hes
    have hap := fun v => aApp1 (P := Tryz.prog) un92 un92 ze3 rfl by3 hown v
    have hel := len_le_of_append hes
    rw [allL_length] at hel
    refine walk hmix T24_ok [] 3000 0 (by kernel_rfl) ?_
    simp (maxSteps := 2000000) only [T24, T23, T22, T21, T20, T19, T18, T17, T16, T13, T12, T11, T10, T9, T8, T7, T6, T5, T4, T3, T2, T1, T0, kw0, List.size_toArray, List.length_cons, List.length_nil, Nat.zero_add, List.range_succ, List.range_zero, List.nil_append, List.getElem?_toArray, List.getElem?_cons_zero, Go.Ab.put, ↓opK_some, ↓guK_none, kw1, roOf, aop, aBin, ev, t12, t11, aBinI, ↓reduceIte, hd1, Option.map_some, ↓roK_ok, upd, ↓gdK_true, Nat.reduceAdd, List.cons_append, Nat.reduceEqDiff, List.getElem?_cons_succ, t5, ty2, ty0, AV.cells.eq_2, Nat.reduceMul, Nat.reducePow, Nat.reduceLeDiff, slv, List.reduceReplicate, ofV, List.map_cons, List.map_nil, aFillEs, AV.isEl.eq_2, Nat.reduceLT, and_self, List.set_cons_zero, aop2, hap, true_and]
    refine ⟨apC_of (by rw [List.length_map]; omega) (by decide), ?_⟩
    rw [wrapL (n := i + 1) (by omega) (by omega)]
    exact ih l (by omega) _ _ ⟨i + 1, es ++ [i], .sl (H.length + 1) 0 ((es.map IA).length + 1) ((es.map IA).length + 1), by omega, by omega, by rw [← hes]; simp, apI, t0, t1, rfl, t11, rfl⟩
  · have hd1 : decide (i < n) = false := decide_eq_false hlt
    have hl : l = 0 := by omega
    subst hl
    simp only [upto, List.append_nil] at hes
    subst hes
    refine walk hmix T24_ok [] 3000 0 (by kernel_rfl) ?_
    simp (maxSteps := 2000000) only [T24, T23, T22, T21, T20, T19, T18, T17, T16, T13, T12, T11, T10, T9, T8, T7, T6, T5, T4, T3, T2, T1, T0, kw0, List.size_toArray, List.length_cons, List.length_nil, Nat.zero_add, List.range_succ, List.range_zero, List.nil_append, List.getElem?_toArray, List.getElem?_cons_zero, Go.Ab.put, ↓opK_some, ↓guK_none, kw1, roOf, aop, aBin, ev, t12, t11, aBinI, ↓reduceIte, hd1, Option.map_some, ↓roK_ok, upd, ↓gdK_false, exitTo, beq_self_eq_true, reduceCtorEq, or_false, Nat.reduceEqDiff, ↓exK_some, Nat.reduceAdd, List.cons_append, t0, List.getElem?_cons_succ, t5, tcall, Tab.ext, Tab.nil, List.map_cons, List.map_nil, ↓roK_call, true_and]
    refine Own.freeze (pre := [I n]) (post := []) hown (purL_map IA _ (fun _ => rfl)) ?_
    intro H' _
    refine AC.pur hof ?_
    refine walk hmix T24_ok [] 3000 0 (by kernel_rfl) ?_
    simp (maxSteps := 2000000) only [T24, T23, T22, T21, T20, T19, T18, T17, T16, T13, T12, T11, T10, T9, T8, T7, T6, T5, T4, T3, T2, T1, T0, kw0, List.getElem?_toArray, List.getElem?_cons_succ, List.getElem?_cons_zero, Go.Ab.put, ↓opK_some, ↓guK_none, kw1, roOf, aop, ev, upd, ↓reduceIte, ↓roK_ok, Option.map_some, Nat.reduceEqDiff, List.size_toArray, List.length_cons, List.length_nil, Nat.zero_add, Nat.reduceAdd, List.range_succ, List.range_zero, List.nil_append, List.cons_append, reduceCtorEq, t0, t1, tcall, Tab.ext, Tab.nil, List.map_cons, List.map_nil, ↓roK_call, true_and]
    refine AC.pur hless ?_
    refine walk hmix T24_ok [] 3000 0 (by kernel_rfl) ?_
    simp (maxSteps := 2000000) only [T24, T23, T22, T21, T20, T19, T18, T17, T16, T13, T12, T11, T10, T9, T8, T7, T6, T5, T4, T3, T2, T1, T0, kw0, List.getElem?_toArray, List.getElem?_cons_succ, List.getElem?_cons_zero, Go.Ab.put, ↓opK_some, ↓guK_none, kw1, roOf, aop, ev, upd, ↓reduceIte, ↓roK_ok, Option.map_some, Nat.reduceEqDiff, List.size_toArray, List.length_cons, List.length_nil, Nat.zero_add, Nat.reduceAdd, List.range_succ, List.range_zero, List.nil_append, List.cons_append, reduceCtorEq, or_true, true_and]
    exact ⟨_, rfl, done_pur hs'.pur rfl⟩
def stepC (has : Int → Bool) (acc o : Int) : Int := if has o = true then IntKind.i64.wrap (acc + 1) else acc
def stepM (a b c : Int) (has : Int → Bool) (acc m : Int) : Int := (sidesL a b c m).foldl (stepC has) acc
theorem ok41 : codeOk 43 (Tryz.f41.body.getD .skip) = true := by kernel_rfl
theorem ro41 : resOk 43 Tryz.f41.results = true := by kernel_rfl
theorem dr41 : todoDr [] [.code (Tryz.f41.body.getD .skip)] = true := by kernel_rfl
set_option maxHeartbeats 8000000 in
set_option maxRecDepth 400000 in
theorem open_of (a b c n : Int) {s1 s2 : AV} (q1 : IsSet s1) (q2 : IsSet s2) {ls : List Int} {e : Int} (hlen : ls.length ≤ 2 ^ 18) (hlist : Pur Tryz.prog GG 74 [I n, s1] (.tup [frS (ls.map IA), I e])) {has : Int → Bool} (hhas : ∀ k, ∃ e, Pur Tryz.prog GG 76 [I n, s2, I k] (.tup [B (has k), I e])) :
    Pur Tryz.prog GG 41 [.agg [I a, I b, I c], I n, s1, s2] (I (ls.foldl (stepM a b c has) 0)) := by
  have h1 := q1.pur
  have h2 := q2.pur
  obtain ⟨b1, b2, b3⟩ := q2.cell
  refine Pur.of_alone ggp (by simp [AV.purL, AV.pur, h1, h2]) (AC.of_body (c := (Tryz.f41.body.getD .skip)) Tryz.func41 rfl (by decide) ok41 ro41 (by exact (by decide : 4 ≤ 43)) ?_)
  refine walk hmix T24_ok [] 3000 0 dr41 ?_
  delta Tryz.f41
  simp only [Option.getD_some]
  simp (maxSteps := 2000000) only [T24, T23, T22, T21, T20, T19, T18, T17, T16, T13, T12, T11, T10, T9, T8, T7, T6, T5, T4, T3, T2, T1, T0, resA, resL, resVar, aload, ty0, rdCells, kw0, List.size_toArray, List.length_cons, List.length_nil, Nat.zero_add, Nat.reduceAdd, List.range_succ, List.range_zero, List.nil_append, List.cons_append, List.getElem?_toArray, List.getElem?_cons_zero, Go.Ab.put, ↓opK_some, ↓guK_none, kw1, roOf, aop, ev, argTs, List.getD_cons_zero, AV.isEl.eq_2, ↓reduceIte, AV.cells.eq_1, ↓roK_ok, List.getElem?_cons_succ, upd, Nat.reduceEqDiff, List.getD_cons_succ, AV.cells.eq_2, b2, b3, Nat.le_refl, List.drop_zero, List.take_succ_cons, List.take_nil, Option.map_some, tcall, Tab.ext, Tab.nil, List.map_cons, List.map_nil, ↓roK_call, true_and]
  refine AC.pur hlist ?_
  refine walk hmix T24_ok [] 3000 0 (by kernel_rfl) ?_
  simp (maxSteps := 2000000) only [T24, T23, T22, T21, T20, T19, T18, T17, T16, T13, T12, T11, T10, T9, T8, T7, T6, T5, T4, T3, T2, T1, T0, kw0, List.getElem?_toArray, List.getElem?_cons_succ, List.getElem?_cons_zero, Go.Ab.put, ↓opK_some, ↓guK_none, kw1, roOf, aop, ev, upd, ↓reduceIte, ↓roK_ok, Option.map_some, Nat.reduceEqDiff, List.size_toArray, List.length_cons, List.length_nil, Nat.zero_add, Nat.reduceAdd, List.range_succ, List.range_zero, List.nil_append, List.cons_append, aLenI, ofV, true_and]
  refine FW.loopInv (fun l ts H => ∃ (i : Nat) (acc : Int), i + l = ls.length ∧ (ls.drop i).foldl (stepM a b c has) acc = ls.foldl (stepM a b c has) 0 ∧ H[0]? = some (.cells [I a, I b, I c]) ∧ H[1]? = some (.cells [I n]) ∧ H[2]? = some (.cells [s2]) ∧ H[3]? = some (.cells [I acc]) ∧
    ts 4 = .ptr 0 0 ∧ ts 5 = .ptr 1 0 ∧ ts 7 = .ptr 2 0 ∧ ts 8 = .ptr 3 0 ∧ ts 22 = frS (ls.map IA) ∧ ts 23 = I ls.length ∧ ts 24 = I (i : Int)) ls.length
    ⟨0, 0, by omega, rfl, rfl, rfl, rfl, rfl, rfl, rfl, rfl, rfl, rfl, rfl, rfl⟩ ?_
  rintro l ih ts H ⟨i, acc, hi, hes, g0, g1, g2, g3, t4, t5, t7, t8, t22, t23, t24⟩
  refine FW.inLoop ?_
  by_cases hlt : i < ls.length
  · have hd1 : decide ((i : Int) < (ls.length : Int)) = true := by simp [hlt]
    have hx := aIdxI (l := ls) i H (by omega)
    rw [Int.toNat_natCast, getD_map IA ls 0 hlt] at hx
    obtain ⟨l, rfl⟩ : ∃ l', l = l' + 1 := ⟨l - 1, by omega⟩
    rw [drop_cons 0 hlt, List.foldl_cons] at hes
    generalize ls.getD i 0 = m at hx hes
    refine walk hmix T24_ok [] 3000 0 (by kernel_rfl) ?_
    simp (maxSteps := 2000000) only [T24, T23, T22, T21, T20, T19, T18, T17, T16, T13, T12, T11, T10, T9, T8, T7, T6, T5, T4, T3, T2, T1, T0, kw0, List.size_toArray, List.length_cons, List.length_nil, Nat.zero_add, List.range_succ, List.range_zero, List.nil_append, List.getElem?_toArray, List.getElem?_cons_zero, Go.Ab.put, ↓opK_some, ↓guK_none, kw1, roOf, aop, aBin, ev, t24, t23, aBinI, ↓reduceIte, hd1, Option.map_some, ↓roK_ok, upd, ↓gdK_true, Nat.reduceAdd, List.cons_append, aInt, Nat.reduceEqDiff, t22, hx, AV.cells.eq_2, and_true, List.getElem?_cons_succ, aload, ty0, rdCells, Nat.le_refl, List.drop_zero, List.take_succ_cons, List.take_nil, t4, g0, tcall, Tab.ext, g75, List.map_cons, List.map_nil, List.append_nil, true_and]
    refine ⟨by omega, ?_⟩
    have hi1 := wrapL (n := (i : Int) + 1) (by omega) (by omega)
    have hL3 := lt_of_get g3
    refine FW.rangeFunc ?_
    simp (maxSteps := 2000000) only [ACV, ev, upd, ↓reduceIte, ne_eq, List.cons_append, List.nil_append]
    refine sides1 ?_
    generalize hal : AO.loop _ = lo
    refine afterL_rounds (fun l' H' => ∃ acc' : Int, l'.foldl (stepC has) acc' = (sidesL a b c m).foldl (stepC has) acc ∧ H'[H.length]? = some lo ∧ H'[0]? = some (.cells [I a, I b, I c]) ∧ H'[1]? = some (.cells [I n]) ∧ H'[2]? = some (.cells [s2]) ∧ H'[3]? = some (.cells [I acc'])) ?_ ?_ _ _
      ⟨acc, rfl, get_concat, (List.getElem?_append_left (by omega)).trans g0, (List.getElem?_append_left (by omega)).trans g1, (List.getElem?_append_left (by omega)).trans g2, (List.getElem?_append_left (by omega)).trans g3⟩
    · rintro H' ⟨acc', hacc, hb, k0, k1, k2, k3⟩
      rw [← hal] at hb
      refine ⟨_, hb, by simp, ?_⟩
      have hne : ∀ j, j < 4 → (H'.set H.length .dead)[j]? = H'[j]? := fun j hj => List.getElem?_set_ne (by omega)
      refine walk hmix T24_ok [] 3000 0 (by kernel_rfl) ?_
      simp (maxSteps := 2000000) only [T24, T23, T22, T21, T20, T19, T18, T17, T16, T13, T12, T11, T10, T9, T8, T7, T6, T5, T4, T3, T2, T1, T0, Option.map_none, Option.toList_none, List.nil_append, kw0, List.size_toArray, List.length_cons, List.length_nil, Nat.zero_add, Nat.reduceAdd, List.range_succ, List.range_zero, List.cons_append, List.getElem?_toArray, List.getElem?_cons_zero, Go.Ab.put, ↓opK_some, ↓guK_none, kw1, roOf, aop, aBin, ev, upd, Nat.reduceEqDiff, ↓reduceIte, t24, ofV, aBinI, hi1, Option.map_some, ↓roK_ok, List.getElem?_cons_succ, true_and]
      exact ih l (by omega) _ _ ⟨i + 1, acc', by omega, by rw [← hes]; congr 1, (hne 0 (by decide)).trans k0, (hne 1 (by decide)).trans k1, (hne 2 (by decide)).trans k2, (hne 3 (by decide)).trans k3, t4, t5, t7, t8, t22, t23, rfl⟩
    · rintro x l' H' ⟨acc', hacc, hb, k0, k1, k2, k3⟩
      rw [← hal] at hb
      refine AY.of_loop hb rfl ?_
      have hl1 := lt_of_get hb
      refine walk hmix T24_ok [] 3000 0 (by kernel_rfl) ?_
      simp (maxSteps := 2000000) only [T24, T23, T22, T21, T20, T19, T18, T17, T16, T13, T12, T11, T10, T9, T8, T7, T6, T5, T4, T3, T2, T1, T0, parTs, kw0, List.size_toArray, List.length_cons, List.length_nil, Nat.zero_add, List.range_succ, List.range_zero, List.nil_append, List.getElem?_toArray, List.getElem?_cons_zero, Go.Ab.put, ↓opK_some, ↓guK_none, kw1, roOf, aop, ev, upd, ↓reduceIte, ↓roK_ok, true_and]
      refine FW.beginRound hb rfl ?_
      generalize hH2 : H'.set H.length _ = H2
      obtain ⟨al2, hb2, hal2⟩ : ∃ al2, H2[H.length]? = some (.loop al2) ∧ AO.loop { al2 with st := .ready, pending := none } = lo := ⟨_, by rw [← hH2, List.getElem?_set_self hl1], hal⟩
      have hk : ∀ j, j < 4 → H2[j]? = H'[j]? := fun j hj => by rw [← hH2, List.getElem?_set_ne (by omega)]
      have j0 := (hk 0 (by decide)).trans k0
      have j1 := (hk 1 (by decide)).trans k1
      have j2 := (hk 2 (by decide)).trans k2
      have j3 := (hk 3 (by decide)).trans k3
      have hL2 := lt_of_get hb2
      clear hb hH2 k0 k1 k2 k3 hk
      refine walk hmix T24_ok [] 3000 0 (by kernel_rfl) ?_
      simp (maxSteps := 2000000) only [T24, T23, T22, T21, T20, T19, T18, T17, T16, T13, T12, T11, T10, T9, T8, T7, T6, T5, T4, T3, T2, T1, T0, kw0, List.size_toArray, List.length_cons, List.length_nil, Nat.zero_add, Nat.reduceAdd, List.range_succ, List.range_zero, List.nil_append, List.cons_append, List.getElem?_toArray, List.getElem?_cons_zero, Go.Ab.put, ↓opK_some, ↓guK_none, kw1, roOf, aop, aload, ty0, rdCells, ev, upd, Nat.reduceEqDiff, ↓reduceIte, t5, j1, Nat.le_refl, List.drop_zero, List.take_succ_cons, List.take_nil, Option.map_some, ↓roK_ok, List.getElem?_cons_succ, ty1, t7, j2, tcall, Tab.ext, Tab.nil, List.map_cons, List.map_nil, ↓roK_call, true_and]
      obtain ⟨ex, hx⟩ := hhas x
      refine AC.pur hx ?_
      rw [List.foldl_cons, stepC] at hacc
      refine walk hmix T24_ok [] 3000 0 (by kernel_rfl) ?_
      cases hq : has x
      · rw [hq, if_neg (by simp)] at hacc
        simp (maxSteps := 2000000) only [T24, T23, T22, T21, T20, T19, T18, T17, T16, T13, T12, T11, T10, T9, T8, T7, T6, T5, T4, T3, T2, T1, T0, kw0, List.getElem?_toArray, List.getElem?_cons_succ, List.getElem?_cons_zero, Go.Ab.put, ↓opK_some, ↓guK_none, kw1, roOf, aop, ev, upd, ↓reduceIte, ↓roK_ok, Option.map_some, Nat.reduceEqDiff, List.size_toArray, List.length_cons, List.length_nil, Nat.zero_add, List.range_succ, List.range_zero, List.nil_append, ↓gdK_false, sy_nil, true_and]
        have hg : ∀ (B : AO) (j : Nat), j < 4 → (H2.set H.length B)[j]? = H2[j]? := fun B j hj => List.getElem?_set_ne (by omega)
        exact ⟨rfl, al2, hb2, rfl, acc', hacc, by rw [List.getElem?_set_self hL2]; exact congrArg some hal2, (hg _ 0 (by decide)).trans j0, (hg _ 1 (by decide)).trans j1, (hg _ 2 (by decide)).trans j2, (hg _ 3 (by decide)).trans j3⟩
      · rw [hq, if_pos rfl] at hacc
        simp (maxSteps := 2000000) only [T24, T23, T22, T21, T20, T19, T18, T17, T16, T13, T12, T11, T10, T9, T8, T7, T6, T5, T4, T3, T2, T1, T0, kw0, List.getElem?_toArray, List.getElem?_cons_succ, List.getElem?_cons_zero, Go.Ab.put, ↓opK_some, ↓guK_none, kw1, roOf, aop, ev, upd, ↓reduceIte, ↓roK_ok, Option.map_some, Nat.reduceEqDiff, List.size_toArray, List.length_cons, List.length_nil, Nat.zero_add, List.range_succ, List.range_zero, List.nil_append, ↓gdK_true, Nat.reduceAdd, List.cons_append, aload, ty0, rdCells, t8, j3, Nat.le_refl, List.drop_zero, List.take_succ_cons, List.take_nil, aBin, ofV, aBinI, astore, AV.isEl.eq_2, AV.cells.eq_2, and_self, wrCells, splice, List.take_zero, List.drop_succ_cons, List.drop_nil, List.append_nil, sy_nil, true_and]
        have hg : ∀ (A B : AO) (j : Nat), j < 3 → ((H2.set 3 A).set H.length B)[j]? = H2[j]? := fun A B j hj => by rw [List.getElem?_set_ne (by omega), List.getElem?_set_ne (by omega)]
        exact ⟨rfl, al2, by rw [List.getElem?_set_ne (by omega)]; exact hb2, rfl, IntKind.i64.wrap (acc' + 1), hacc, by rw [List.getElem?_set_self (by rw [List.length_set]; exact hL2)]; exact congrArg some hal2, (hg _ _ 0 (by decide)).trans j0, (hg _ _ 1 (by decide)).trans j1, (hg _ _ 2 (by decide)).trans j2, by rw [List.getElem?_set_ne (by omega), List.getElem?_set_self (by omega)]⟩
  · have hd1 : decide ((i : Int) < (ls.length : Int)) = false := by simp; omega
    refine walk hmix T24_ok [] 3000 0 (by kernel_rfl) ?_
    simp (maxSteps := 2000000) only [T24, T23, T22, T21, T20, T19, T18, T17, T16, T13, T12, T11, T10, T9, T8, T7, T6, T5, T4, T3, T2, T1, T0, kw0, List.size_toArray, List.length_cons, List.length_nil, Nat.zero_add, List.range_succ, List.range_zero, List.nil_append, List.getElem?_toArray, List.getElem?_cons_zero, Go.Ab.put, ↓opK_some, ↓guK_none, kw1, roOf, aop, aBin, ev, t24, t23, aBinI, ↓reduceIte, hd1, Option.map_some, ↓roK_ok, upd, ↓gdK_false, exitTo, beq_self_eq_true, reduceCtorEq, or_false, Nat.reduceEqDiff, t8, g3, Nat.le_refl, List.drop_zero, List.take_succ_cons, List.take_nil, Option.some.injEq, ↓exK_some, or_true, true_and]
    rw [List.drop_eq_nil_of_le (by omega)] at hes
    have hes' : acc = ls.foldl (stepM a b c has) 0 := hes
    exact ⟨_, rfl, done_pur rfl (by rw [hes'])⟩
theorem ok15 : codeOk 60 (Tryz.f15.body.getD .skip) = true := by kernel_rfl
theorem ro15 : resOk 60 Tryz.f15.results = true := by kernel_rfl
theorem dr15 : todoDr [] [.code (Tryz.f15.body.getD .skip)] = true := by kernel_rfl
set_option maxHeartbeats 8000000 in
set_option maxRecDepth 400000 in
theorem score_of {a b c x y z p q r : Int} {s t u : Bool} (hp : okPl a b c x y z p q r s t u) {m o f : AV} (qm : IsSet m) (hm : Pur Tryz.prog GG 29 [I (manyV a b c), m] (I 0)) {e1 e2 cn k : Int} (qo : IsSet o) (qf : IsSet f)
    (ho : Pur Tryz.prog GG 40 [I (manyV a b c), m] o) (hf : Pur Tryz.prog GG 39 [I (manyV a b c), o, .isl ((ownW a b c x y z p q r).map U)] (.tup [f, I e1]))
    (hc : Pur Tryz.prog GG 26 [I (3 * manyV a b c), .isl ((linksW a b c x y z p q r s t u).map U)] (.tup [I cn, I e2])) (hk : Pur Tryz.prog GG 41 [.agg [I a, I b, I c], I (manyV a b c), .isl ((ownW a b c x y z p q r).map U), f] (I k)) :
    Pur Tryz.prog GG 15 [.agg [I a, I b, I c], .agg [I x, I y, I z, I p, I q, I r, B s, B t, B u], m] (.tup [I (IntKind.i64.wrap (IntKind.i64.wrap (2 * k) + cn)), I 0]) := by
  have hd := hp.1
  have hmu := okD_mul hd
  have hmv : manyV a b c = a * b * c := by rw [manyV, if_pos hd]
  have hd' := hd
  unfold okD at hd'
  have h1 : 0 < a * b * c := Int.mul_pos (Int.mul_pos (by omega) (by omega)) (by omega)
  have hn : 1 ≤ manyV a b c ∧ manyV a b c ≤ 4096 := by omega
  have hw3 := wrapL (n := 3 * manyV a b c) (by omega) (by omega)
  obtain ⟨b1, b2, b3⟩ := qm.cell
  have hpu := qm.pur
  refine Pur.of_alone ggp (by simp [AV.purL, AV.pur, hpu]) (AC.of_body (c := (Tryz.f15.body.getD .skip)) Tryz.func15 rfl (by decide) ok15 ro15 (by exact (by decide : 3 ≤ 60)) ?_)
  refine walk hmix T24_ok [] 3000 0 dr15 ?_
  delta Tryz.f15
  simp only [Option.getD_some]
  simp (maxSteps := 2000000) only [T24, T23, T22, T21, T20, T19, T18, T17, T16, T13, T12, T11, T10, T9, T8, T7, T6, T5, T4, T3, T2, T1, T0, resA, resL, resVar, Option.some.injEq, kw0, List.size_toArray, List.length_cons, List.length_nil, Nat.zero_add, Nat.reduceAdd, List.range_succ, List.range_zero, List.nil_append, List.cons_append, List.getElem?_toArray, List.getElem?_cons_zero, Go.Ab.put, ↓opK_some, ↓guK_none, kw1, roOf, aop, ev, argTs, List.getD_cons_zero, AV.isEl.eq_2, ↓reduceIte, AV.cells.eq_1, ↓roK_ok, List.getElem?_cons_succ, upd, Nat.reduceEqDiff, List.getD_cons_succ, ofV, aload, ty0, rdCells, Nat.le_refl, List.drop_zero, List.take_succ_cons, List.take_nil, Option.map_some, ty3, ty1, AV.cells.eq_2, Nat.reduceMul, Nat.reducePow, Nat.reduceLeDiff, slv, List.reduceReplicate, List.map_cons, List.map_nil, aFillEs, b2, b3, Nat.reduceLT, and_self, List.set_cons_zero, tcall, Tab.ext, Tab.nil, ↓roK_call, true_and]
  refine sckd_ac hd hm qm rfl ?_
  intro l
  refine walk hmix T24_ok [] 3000 0 (by kernel_rfl) ?_
  simp (maxSteps := 2000000) only [T24, T23, T22, T21, T20, T19, T18, T17, T16, T13, T12, T11, T10, T9, T8, T7, T6, T5, T4, T3, T2, T1, T0, List.cons_append, List.nil_append, kw0, List.getElem?_toArray, List.getElem?_cons_succ, List.getElem?_cons_zero, Go.Ab.put, ↓opK_some, ↓guK_none, kw1, roOf, aop, ev, upd, ↓reduceIte, ↓roK_ok, Option.map_some, Nat.reduceEqDiff, List.size_toArray, List.length_cons, List.length_nil, Nat.zero_add, Nat.reduceAdd, List.range_succ, List.range_zero, aBin, ofV, aBinI, bne_eq_decide', ne_eq, not_true_eq_false, decide_false, ↓gdK_false, aload, ty0, rdCells, Nat.le_refl, List.drop_zero, List.take_succ_cons, List.take_nil, ty1, tcall, Tab.ext, g21, List.map_cons, List.map_nil, List.append_nil, argTs, List.getD_cons_succ, List.getD_cons_zero, Tab.nil, ↓roK_call, true_and]
  refine ⟨hp, ?_⟩
  refine AC.pur ho ?_
  refine walk hmix T24_ok [] 3000 0 (by kernel_rfl) ?_
  simp (maxSteps := 2000000) only [T24, T23, T22, T21, T20, T19, T18, T17, T16, T13, T12, T11, T10, T9, T8, T7, T6, T5, T4, T3, T2, T1, T0, kw0, List.getElem?_toArray, List.getElem?_cons_succ, List.getElem?_cons_zero, Go.Ab.put, ↓opK_some, ↓guK_none, kw1, roOf, aop, ev, upd, Nat.reduceEqDiff, ↓reduceIte, ↓roK_ok, tcall, Tab.ext, Tab.nil, List.map_cons, List.map_nil, ↓roK_call, true_and]
  refine AC.pur hf ?_
  refine walk hmix T24_ok [] 3000 0 (by kernel_rfl) ?_
  simp (maxSteps := 2000000) only [T24, T23, T22, T21, T20, T19, T18, T17, T16, T13, T12, T11, T10, T9, T8, T7, T6, T5, T4, T3, T2, T1, T0, kw0, List.getElem?_toArray, List.getElem?_cons_succ, List.getElem?_cons_zero, Go.Ab.put, ↓opK_some, ↓guK_none, kw1, roOf, aop, ev, upd, ↓reduceIte, ↓roK_ok, Option.map_some, Nat.reduceEqDiff, List.size_toArray, List.length_cons, List.length_nil, Nat.zero_add, Nat.reduceAdd, List.range_succ, List.range_zero, List.nil_append, List.cons_append, aBin, ofV, aBinI, hw3, tcall, Tab.ext, Tab.nil, List.map_cons, List.map_nil, ↓roK_call, true_and]
  refine AC.pur hc ?_
  refine walk hmix T24_ok [] 3000 0 (by kernel_rfl) ?_
  simp (maxSteps := 2000000) only [T24, T23, T22, T21, T20, T19, T18, T17, T16, T13, T12, T11, T10, T9, T8, T7, T6, T5, T4, T3, T2, T1, T0, kw0, List.getElem?_toArray, List.getElem?_cons_succ, List.getElem?_cons_zero, Go.Ab.put, ↓opK_some, ↓guK_none, kw1, roOf, aop, ev, upd, ↓reduceIte, ↓roK_ok, Option.map_some, Nat.reduceEqDiff, List.size_toArray, List.length_cons, List.length_nil, Nat.zero_add, Nat.reduceAdd, List.range_succ, List.range_zero, List.nil_append, List.cons_append, aload, ty0, rdCells, Nat.le_refl, List.drop_zero, List.take_succ_cons, List.take_nil, tcall, Tab.ext, Tab.nil, List.map_cons, List.map_nil, ↓roK_call, true_and]
  refine AC.pur hk ?_
  refine walk hmix T24_ok [] 3000 0 (by kernel_rfl) ?_
  simp (maxSteps := 2000000) only [T24, T23, T22, T21, T20, T19, T18, T17, T16, T13, T12, T11, T10, T9, T8, T7, T6, T5, T4, T3, T2, T1, T0, kw0, List.getElem?_toArray, List.getElem?_cons_succ, List.getElem?_cons_zero, Go.Ab.put, ↓opK_some, ↓guK_none, kw1, roOf, aop, aBin, ev, ofV, upd, ↓reduceIte, aBinI, Option.map_some, ↓roK_ok, Nat.reduceEqDiff, reduceCtorEq, or_true, true_and]
  exact ⟨_, rfl, done_pur rfl rfl⟩
end Go.Ab.Pd

set_option linter.unusedSimpArgs false
set_option linter.unusedVariables false
namespace Go.Ab.Pd
open Go.Proofs
theorem ok47 : codeOk 14 (Tryz.f47.body.getD .skip) = true := by kernel_rfl
theorem ro47 : resOk 14 Tryz.f47.results = true := by kernel_rfl
theorem dr47 : todoDr [] [.code (Tryz.f47.body.getD .skip)] = true := by kernel_rfl
set_option maxHeartbeats 4000000 in
set_option maxRecDepth 400000 in
theorem bits_pur (s t u : Bool) : Pur Tryz.prog GG 47 [.agg [B s, B t, B u]] (.agg [I (bitV s), I (bitV t), I (bitV u)]) := by
  refine Pur.of_alone ggp (by first | rfl | (simp [AV.purL, AV.pur]; done) | (simp [AV.purL, AV.pur, frS_pur (purL_map IA _ (fun _ => rfl)), purL_map U _ (fun _ => rfl)]; done) | (simp [AV.purL, AV.pur, *]; done)) (AC.of_body (c := (Tryz.f47.body.getD .skip)) Tryz.func47 rfl (by decide) ok47 ro47 (by exact (by decide : 1 ≤ 14)) ?_)
  refine walk hmix T24_ok [] 3000 5 dr47 ?_
  delta Tryz.f47
  simp only [Option.getD_some]
  simp (maxSteps := 2000000) only [T24, T23, T22, T21, T20, T19, T18, T17, T16, T13, T12, T11, T10, T9, T8, T7, T6, T5, T4, T3, T2, T1, T0, resA, resL, resVar, aload, ty0, rdCells, kw0, List.size_toArray, List.length_cons, List.length_nil, Nat.zero_add, Nat.reduceAdd, List.range_succ, List.range_zero, List.nil_append, List.cons_append, List.getElem?_toArray, List.getElem?_cons_zero, Go.Ab.put, ↓opK_some, ↓guK_none, kw1, roOf, aop, ev, argTs, List.getD_cons_zero, AV.isEl.eq_2, ↓reduceIte, AV.cells.eq_1, ↓roK_ok, List.getElem?_cons_succ, upd, Nat.reduceEqDiff, Nat.le_refl, List.drop_zero, List.take_succ_cons, List.take_nil, Option.map_some, ofV, aBin, aBinI, Int.reduceLT, decide_true, gdK_var, aInt, aIdx, Int.reduceLE, Int.cast_ofNat_Int, and_self, aPart, Int.toNat_zero, Nat.reduceMul, ptrAdd, Nat.add_zero, astore, AV.cells.eq_2, wrCells, Nat.reduceLeDiff, splice, List.take_zero, List.drop_succ_cons, List.set_cons_succ, List.set_cons_zero, Int.zero_add, Int.reduceNeg, wrapL, Int.toNat_one, Int.reduceAdd, Int.reduceToNat, List.drop_nil, List.append_nil, decide_false, Bool.false_eq_true, true_and, List.getElem?_nil, Option.map_none, ↓roK_bad, false_implies, exitTo, beq_self_eq_true, reduceCtorEq, or_false, Option.some.injEq, ↓exK_some, or_true, forall_const, Bool.true_eq_false, and_true]
  repeat' (first | apply And.intro | intro _)
  all_goals
    refine ⟨_, rfl, done_pur rfl ?_⟩
    simp [bitV, *]
def g47 : List AV → Option (Prop × AV)
  | [.agg [(.c (.bool s)), (.c (.bool t)), (.c (.bool u))]] => some (True, .agg [I (bitV s), I (bitV t), I (bitV u)])
  | _ => none
theorem g47_ok : ∀ args p, g47 args = some p → p.1 → Pur Tryz.prog GG 47 args p.2 := by
  intro args p hp hc
  unfold g47 at hp
  split at hp
  · cases hp
    exact bits_pur _ _ _
  · cases hp
def T25 : Tab := Tab.ext T24 47 g47
theorem T25_ok : TOk Tryz.prog GG T25 := TOk.ext T24_ok g47_ok
set_option maxHeartbeats 4000000 in
set_option maxRecDepth 400000 in
theorem or_ac {c1 c2 c3 c4 : Int} {H : List AO} {id : Nat} (hid : H[id]? = some (.arr 1 [I c1, I c2, I c3, I c4])) {K : AV → List AO → Prop} (hK : K (I (orV c1 (orV c2 (orV c3 c4)))) H) : AC Tryz.prog GG 48 [.sl id 0 4 4] H K := by
  refine AC.of_body (c := (Tryz.f48.body.getD .skip)) Tryz.func48 rfl (by decide) ok48 ro48 (by exact (by decide : 1 ≤ 18)) ?_
  refine walk hmix TOk.nil [] 3000 5 dr48 ?_
  delta Tryz.f48
  simp only [Option.getD_some]
  simp (maxSteps := 2000000) only [resA, resL, resVar, Option.some.injEq, kw0, List.size_toArray, List.length_cons, List.length_nil, Nat.zero_add, List.range_succ, List.range_zero, List.nil_append, List.getElem?_toArray, List.getElem?_cons_zero, Go.Ab.put, ↓opK_some, ↓guK_none, kw1, roOf, aop, ev, ofV, ↓roK_ok, Nat.reduceAdd, List.cons_append, upd, reduceCtorEq, ↓reduceIte, argTs, List.getD_cons_zero, List.getElem?_cons_succ, ty2, Int.cast_ofNat_Int, Option.map_some, aBin, Nat.reduceEqDiff, aBinI, Int.reduceLT, decide_true, ↓gdK_true, aInt, hid, Int.reduceLE, and_self, Int.toNat_zero, Nat.add_zero, aload, ty0, rdCells, Nat.reduceLT, Nat.le_refl, AV.cells.eq_2, List.drop_zero, List.take_succ_cons, List.take_nil, bne_eq_decide', ne_eq, decide_not, ↓gdK_not, ↓gdK_dec, Bool.not_true, Int.zero_add, Int.reduceNeg, wrapL, Int.toNat_one, List.getD_cons_succ, Int.reduceAdd, Int.reduceToNat, decide_false, ↓gdK_false, exitTo, beq_self_eq_true, or_false, ↓exK_some, or_true, true_and, Bool.not_false]
  refine ⟨fun h1 => ?_, fun h1 => ⟨_, rfl, by rw [orV_1 h1] at hK; exact hK⟩⟩
  rw [orV_0 h1] at hK
  refine ⟨fun h2 => ?_, fun h2 => ⟨_, rfl, by rw [orV_1 h2] at hK; exact hK⟩⟩
  rw [orV_0 h2] at hK
  refine ⟨fun h3 => ?_, fun h3 => ⟨_, rfl, by rw [orV_1 h3] at hK; exact hK⟩⟩
  rw [orV_0 h3] at hK
  exact ⟨fun h4 => ⟨_, rfl, by rw [h4] at hK; exact hK⟩, fun h4 => ⟨_, rfl, hK⟩⟩
theorem iab (id off len cap : Nat) (i : Int) (H : List AO) : aIdxAddr Tryz.prog 92 (.bs id off len cap 1) i H = some (0 ≤ i ∧ i < (len : Int), .ptr id (off + i.toNat * 1)) := by
  unfold aIdxAddr; simp only [un92, sz3]; rfl
theorem lbb (id off len cap sz : Nat) : aLen Tryz.prog 92 (.bs id off len cap sz) = some (len : Int) := by unfold aLen; simp only [un92]
def lexV (p q r p' q' r' : Int) : Int := orV (cmpV p p') (orV (cmpV q q') (cmpV r r'))
theorem ok50 : codeOk 36 (Tryz.f50.body.getD .skip) = true := by kernel_rfl
theorem ro50 : resOk 36 Tryz.f50.results = true := by kernel_rfl
theorem dr50 : todoDr [] [.code (Tryz.f50.body.getD .skip)] = true := by kernel_rfl
set_option maxHeartbeats 4000000 in
set_option maxRecDepth 400000 in
theorem scmp0 {p q r p' q' r' : Int} {H : List AO} {i1 i2 : Nat} (h1 : H[i1]? = some (.cells [I p, I q, I r])) (h2 : H[i2]? = some (.cells [I p', I q', I r'])) {K : AV → List AO → Prop} (hK : K (I (lexV p q r p' q' r')) H) : AC Tryz.prog GG 50 [.bs i1 0 3 3 1, .bs i2 0 3 3 1] H K := by
  unfold lexV at hK
  refine AC.of_body (c := (Tryz.f50.body.getD .skip)) Tryz.func50 rfl (by decide) ok50 ro50 (by exact (by decide : 2 ≤ 36)) ?_
  refine walk hmix T25_ok [] 3000 4 dr50 ?_
  delta Tryz.f50
  simp only [Option.getD_some]
  simp (maxSteps := 2000000) only [T25, T24, T23, T22, T21, T20, T19, T18, T17, T16, T13, T12, T11, T10, T9, T8, T7, T6, T5, T4, T3, T2, T1, T0, Int.reduceNeg, resA, resL, resVar, Option.some.injEq, kw0, List.size_toArray, List.length_cons, List.length_nil, Nat.zero_add, List.range_succ, List.range_zero, List.nil_append, List.getElem?_toArray, List.getElem?_cons_zero, Go.Ab.put, ↓opK_some, ↓guK_none, kw1, roOf, aop, ev, ofV, ↓roK_ok, Nat.reduceAdd, List.cons_append, upd, reduceCtorEq, ↓reduceIte, argTs, List.getD_cons_zero, List.getElem?_cons_succ, lbb, Int.cast_ofNat_Int, Option.map_some, aBin, Nat.reduceEqDiff, aBinI, Int.reduceLT, decide_true, ↓gdK_true, aInt, iab, Int.reduceLE, and_self, Int.toNat_zero, Nat.reduceMul, Nat.add_zero, aload, ty0, rdCells, h1, Nat.reduceLeDiff, List.drop_zero, List.take_succ_cons, List.take_zero, List.getD_cons_succ, decide_false, ↓gdK_false, h2, tcall, Tab.ext, g49, List.map_cons, List.map_nil, List.append_nil, bne_eq_decide', ne_eq, decide_not, ↓gdK_not, ↓gdK_dec, Bool.not_true, Int.zero_add, wrapL, Int.toNat_one, List.drop_succ_cons, Int.reduceAdd, Int.reduceToNat, Nat.le_refl, List.take_nil, exitTo, beq_self_eq_true, or_false, ↓exK_some, or_true, true_and, Bool.not_false]
  refine ⟨fun h1 => ?_, fun h1 => ⟨_, rfl, by rw [orV_1 h1] at hK; exact hK⟩⟩
  rw [orV_0 h1] at hK
  refine ⟨fun h2 => ?_, fun h2 => ⟨_, rfl, by rw [orV_1 h2] at hK; exact hK⟩⟩
  rw [orV_0 h2] at hK
  exact ⟨fun h3 => ⟨_, rfl, by rw [h3] at hK; exact hK⟩, fun h3 => ⟨_, rfl, hK⟩⟩
set_option maxHeartbeats 4000000 in
set_option maxRecDepth 400000 in
theorem scmp3 {p q r p' q' r' a1 a2 a3 b1 b2 b3 : Int} {c1 c2 c3 d1 d2 d3 : AV} {H : List AO} {i1 i2 : Nat} (h1 : H[i1]? = some (.cells [I a1, I a2, I a3, I p, I q, I r, c1, c2, c3])) (h2 : H[i2]? = some (.cells [I b1, I b2, I b3, I p', I q', I r', d1, d2, d3])) {K : AV → List AO → Prop} (hK : K (I (lexV p q r p' q' r')) H) : AC Tryz.prog GG 50 [.bs i1 3 3 3 1, .bs i2 3 3 3 1] H K := by
  unfold lexV at hK
  refine AC.of_body (c := (Tryz.f50.body.getD .skip)) Tryz.func50 rfl (by decide) ok50 ro50 (by exact (by decide : 2 ≤ 36)) ?_
  refine walk hmix T25_ok [] 3000 4 dr50 ?_
  delta Tryz.f50
  simp only [Option.getD_some]
  simp (maxSteps := 2000000) only [T25, T24, T23, T22, T21, T20, T19, T18, T17, T16, T13, T12, T11, T10, T9, T8, T7, T6, T5, T4, T3, T2, T1, T0, Int.reduceNeg, resA, resL, resVar, Option.some.injEq, kw0, List.size_toArray, List.length_cons, List.length_nil, Nat.zero_add, List.range_succ, List.range_zero, List.nil_append, List.getElem?_toArray, List.getElem?_cons_zero, Go.Ab.put, ↓opK_some, ↓guK_none, kw1, roOf, aop, ev, ofV, ↓roK_ok, Nat.reduceAdd, List.cons_append, upd, reduceCtorEq, ↓reduceIte, argTs, List.getD_cons_zero, List.getElem?_cons_succ, lbb, Int.cast_ofNat_Int, Option.map_some, aBin, Nat.reduceEqDiff, aBinI, Int.reduceLT, decide_true, ↓gdK_true, aInt, iab, Int.reduceLE, and_self, Int.toNat_zero, Nat.reduceMul, Nat.add_zero, aload, ty0, rdCells, h1, Nat.reduceLeDiff, List.drop_succ_cons, List.drop_zero, List.take_succ_cons, List.take_zero, List.getD_cons_succ, decide_false, ↓gdK_false, h2, tcall, Tab.ext, g49, List.map_cons, List.map_nil, List.append_nil, bne_eq_decide', ne_eq, decide_not, ↓gdK_not, ↓gdK_dec, Bool.not_true, Int.zero_add, wrapL, Int.toNat_one, Int.reduceAdd, Int.reduceToNat, exitTo, beq_self_eq_true, or_false, ↓exK_some, or_true, true_and, Bool.not_false]
  refine ⟨fun h1 => ?_, fun h1 => ⟨_, rfl, by rw [orV_1 h1] at hK; exact hK⟩⟩
  rw [orV_0 h1] at hK
  refine ⟨fun h2 => ?_, fun h2 => ⟨_, rfl, by rw [orV_1 h2] at hK; exact hK⟩⟩
  rw [orV_0 h2] at hK
  exact ⟨fun h3 => ⟨_, rfl, by rw [h3] at hK; exact hK⟩, fun h3 => ⟨_, rfl, hK⟩⟩
theorem find1t {x y z p q r x' y' z' p' q' r' : Int} {s t u s' t' u' : Bool} {b : Nat} {v : AV} (h : samePl x y z p q r x' y' z' p' q' r' s t u s' t' u') : aFind Tryz.prog 34 (PL x y z p q r s t u) [(b, PL x' y' z' p' q' r' s' t' u', v)] = some (some 0) := by
  unfold aFind
  rw [eqPl, decide_eq_true h]
theorem find1f {x y z p q r x' y' z' p' q' r' : Int} {s t u s' t' u' : Bool} {b : Nat} {v : AV} (h : ¬samePl x y z p q r x' y' z' p' q' r' s t u s' t' u') : aFind Tryz.prog 34 (PL x y z p q r s t u) [(b, PL x' y' z' p' q' r' s' t' u', v)] = some none := by
  unfold aFind
  rw [eqPl, decide_eq_false h]
  rfl
theorem ok44 : codeOk 27 (Tryz.f44.body.getD .skip) = true := by kernel_rfl
theorem ro44 : resOk 27 Tryz.f44.results = true := by kernel_rfl
theorem dr44 : todoDr [] [.code (Tryz.f44.body.getD .skip)] = true := by kernel_rfl
set_option maxHeartbeats 4000000 in
set_option maxRecDepth 400000 in
theorem of_new {a b c x y z p q r n : Int} {s t u : Bool} {sv : AV} {H : List AO} {M D S m clock : Nat} {es : List (Nat × AV × AV)} (hsv : sv.isCell = true ∧ sv.isEl = true ∧ sv.cells = [sv])
    (hM : H[M]? = some (.cells [.mp m])) (hD : H[D]? = some (.cells [I a, I b, I c])) (hS : H[S]? = some (.cells [sv])) (hm : H[m]? = some (.map es clock)) (hf : aFind Tryz.prog 34 (PL x y z p q r s t u) es = some none)
    (hsc : Pur Tryz.prog GG 15 [.agg [I a, I b, I c], PL x y z p q r s t u, sv] (.tup [I n, I 0])) {K : AV → List AO → Prop}
    (hK : K (I n) ((H ++ [AO.cells [I x, I y, I z, I p, I q, I r, B s, B t, B u]]).set m (AO.map (es ++ [(clock, PL x y z p q r s t u, I n)]) (clock + 1)))) :
    AC Tryz.prog GG 44 [PL x y z p q r s t u, .ptr M 0, .ptr D 0, .ptr S 0] H K := by
  obtain ⟨a1, a2, a3⟩ := hsv
  have qM : ∀ l, (H ++ l)[M]? = some (.cells [.mp m]) := fun l => by rw [List.getElem?_append_left (lt_of_get hM)]; exact hM
  have qD : ∀ l, (H ++ l)[D]? = some (.cells [I a, I b, I c]) := fun l => by rw [List.getElem?_append_left (lt_of_get hD)]; exact hD
  have qS : ∀ l, (H ++ l)[S]? = some (.cells [sv]) := fun l => by rw [List.getElem?_append_left (lt_of_get hS)]; exact hS
  have qm : ∀ l, (H ++ l)[m]? = some (.map es clock) := fun l => by rw [List.getElem?_append_left (lt_of_get hm)]; exact hm
  have hck := ckPl x y z p q r s t u
  have hfl := flPl x y z p q r s t u
  refine AC.of_body (c := (Tryz.f44.body.getD .skip)) Tryz.func44 rfl (by decide) ok44 ro44 (by exact (by decide : 4 ≤ 27)) ?_
  refine walk hmix T25_ok [] 3000 0 dr44 ?_
  delta Tryz.f44
  simp only [Option.getD_some]
  simp (maxSteps := 2000000) only [T25, T24, T23, T22, T21, T20, T19, T18, T17, T16, T13, T12, T11, T10, T9, T8, T7, T6, T5, T4, T3, T2, T1, T0, resA, resL, resVar, Option.some.injEq, kw0, List.size_toArray, List.length_cons, List.length_nil, Nat.zero_add, Nat.reduceAdd, List.range_succ, List.range_zero, List.nil_append, List.cons_append, List.getElem?_toArray, List.getElem?_cons_zero, Go.Ab.put, ↓opK_some, ↓guK_none, kw1, roOf, aop, ev, argTs, List.getD_cons_zero, AV.isEl.eq_2, ↓reduceIte, AV.cells.eq_1, ↓roK_ok, List.getElem?_cons_succ, ofV, aload, ty2, rdCells, upd, Nat.reduceEqDiff, List.getD_cons_succ, qM, Nat.le_refl, List.drop_zero, List.take_succ_cons, List.take_nil, Option.map_some, ty1, get_concat, aop2, aLookup, hck, qm, hf, lkZero, ty0, lkRes, Bool.not_false, ↓gdK_true, qD, qS, tcall, Tab.ext, Tab.nil, List.map_cons, List.map_nil, ↓roK_call, true_and]
  refine AC.pur hsc ?_
  refine walk hmix T25_ok [] 3000 0 (by kernel_rfl) ?_
  simp (maxSteps := 2000000) only [T25, T24, T23, T22, T21, T20, T19, T18, T17, T16, T13, T12, T11, T10, T9, T8, T7, T6, T5, T4, T3, T2, T1, T0, kw0, List.getElem?_toArray, List.getElem?_cons_succ, List.getElem?_cons_zero, Go.Ab.put, ↓opK_some, ↓guK_none, kw1, roOf, aop, ev, upd, ↓reduceIte, ↓roK_ok, Option.map_some, Nat.reduceEqDiff, List.size_toArray, List.length_cons, List.length_nil, Nat.zero_add, Nat.reduceAdd, List.range_succ, List.range_zero, List.nil_append, List.cons_append, aload, ty2, rdCells, argTs, List.getD_cons_succ, List.getD_cons_zero, qM, Nat.le_refl, List.drop_zero, List.take_succ_cons, List.take_nil, ty1, get_concat, aop2, aMapUpdate, qm, hck, hfl, and_self, hf, reduceCtorEq, or_true, true_and]
  exact ⟨_, rfl, hK⟩
set_option maxHeartbeats 4000000 in
set_option maxRecDepth 400000 in
theorem of_known {x y z p q r x' y' z' p' q' r' n : Int} {s t u s' t' u' : Bool} {H : List AO} {M D S m clock b : Nat}
    (hM : H[M]? = some (.cells [.mp m])) (hm : H[m]? = some (.map [(b, PL x' y' z' p' q' r' s' t' u', I n)] clock)) (hsame : samePl x y z p q r x' y' z' p' q' r' s t u s' t' u') {K : AV → List AO → Prop}
    (hK : K (I n) (H ++ [AO.cells [I x, I y, I z, I p, I q, I r, B s, B t, B u]])) :
    AC Tryz.prog GG 44 [PL x y z p q r s t u, .ptr M 0, .ptr D 0, .ptr S 0] H K := by
  have qM : ∀ l, (H ++ l)[M]? = some (.cells [.mp m]) := fun l => by rw [List.getElem?_append_left (lt_of_get hM)]; exact hM
  have qm : ∀ l, (H ++ l)[m]? = some (.map [(b, PL x' y' z' p' q' r' s' t' u', I n)] clock) := fun l => by rw [List.getElem?_append_left (lt_of_get hm)]; exact hm
  have hck := ckPl x y z p q r s t u
  have hf := find1t (b := b) (v := I n) hsame
  refine AC.of_body (c := (Tryz.f44.body.getD .skip)) Tryz.func44 rfl (by decide) ok44 ro44 (by exact (by decide : 4 ≤ 27)) ?_
  refine walk hmix T25_ok [] 3000 0 dr44 ?_
  delta Tryz.f44
  simp only [Option.getD_some]
  simp (maxSteps := 2000000) only [T25, T24, T23, T22, T21, T20, T19, T18, T17, T16, T13, T12, T11, T10, T9, T8, T7, T6, T5, T4, T3, T2, T1, T0, resA, resL, resVar, Option.some.injEq, kw0, List.size_toArray, List.length_cons, List.length_nil, Nat.zero_add, Nat.reduceAdd, List.range_succ, List.range_zero, List.nil_append, List.cons_append, List.getElem?_toArray, List.getElem?_cons_zero, Go.Ab.put, ↓opK_some, ↓guK_none, kw1, roOf, aop, ev, argTs, List.getD_cons_zero, AV.isEl.eq_2, ↓reduceIte, AV.cells.eq_1, ↓roK_ok, List.getElem?_cons_succ, ofV, aload, ty2, rdCells, upd, Nat.reduceEqDiff, List.getD_cons_succ, qM, Nat.le_refl, List.drop_zero, List.take_succ_cons, List.take_nil, Option.map_some, ty1, get_concat, aop2, aLookup, hck, qm, hf, lkRes, Bool.not_true, ↓gdK_false, reduceCtorEq, or_true, true_and]
  exact ⟨_, rfl, hK⟩
theorem ok18 : codeOk 10 (Tryz.f18.body.getD .skip) = true := by kernel_rfl
theorem ro18 : resOk 10 Tryz.f18.results = true := by kernel_rfl
theorem dr18 : todoDr [] [.code (Tryz.f18.body.getD .skip)] = true := by kernel_rfl
set_option maxHeartbeats 4000000 in
set_option maxRecDepth 400000 in
theorem compare_ac {a b c : Int} {sv : AV} {H : List AO} (hsv : sv.isCell = true ∧ sv.isEl = true ∧ sv.cells = [sv]) {K : AV → List AO → Prop}
    (hK : K (.fn 45 [] [.ptr H.length 0, .ptr (H.length + 4) 0]) (H ++ [.cells [I a, I b, I c], .cells [sv], .map [] 0, .cells [.mp (H.length + 2)], .cells [.fn 44 [] [.ptr (H.length + 3) 0, .ptr H.length 0, .ptr (H.length + 1) 0]]])) :
    AC Tryz.prog GG 18 [.agg [I a, I b, I c], sv] H K := by
  obtain ⟨a1, a2, a3⟩ := hsv
  refine AC.of_body (c := (Tryz.f18.body.getD .skip)) Tryz.func18 rfl (by decide) ok18 ro18 (by exact (by decide : 2 ≤ 10)) ?_
  refine walk hmix T25_ok [] 3000 0 dr18 ?_
  delta Tryz.f18
  simp only [Option.getD_some]
  simp (maxSteps := 2000000) only [T25, T24, T23, T22, T21, T20, T19, T18, T17, T16, T13, T12, T11, T10, T9, T8, T7, T6, T5, T4, T3, T2, T1, T0, resA, resL, resVar, Option.some.injEq, kw0, List.size_toArray, List.length_cons, List.length_nil, Nat.zero_add, Nat.reduceAdd, List.range_succ, List.range_zero, List.nil_append, List.cons_append, List.getElem?_toArray, List.getElem?_cons_zero, Go.Ab.put, ↓opK_some, ↓guK_none, kw1, roOf, aop, ev, argTs, List.getD_cons_zero, AV.isEl.eq_2, ↓reduceIte, AV.cells.eq_1, ↓roK_ok, List.getElem?_cons_succ, upd, Nat.reduceEqDiff, List.getD_cons_succ, a2, List.length_append, a3, List.append_assoc, ofV, aop2, ty2, astore, AV.cells.eq_2, and_self, wrCells, getA, Nat.le_refl, splice, List.take_zero, List.drop_succ_cons, List.drop_nil, List.append_nil, setA, List.set_cons_succ, List.set_cons_zero, Option.map_some, List.map_nil, List.map_cons, reduceCtorEq, or_true, true_and]
  exact ⟨_, rfl, hK⟩
end Go.Ab.Pd

set_option linter.unusedSimpArgs false
set_option linter.unusedVariables false
namespace Go.Ab.Pd
open Go.Proofs
theorem FW.walkD {P : Program} {G : Gl} (hm : P.follows .mixedOrders = true) {ops : Array Oper} {imp : Nat → Bool} {A : Nat → Bool} {ex : Nat → List Nat} (hA : ∀ a, A a = true → a < ops.size) (hD : delayB ops A ex = true) {l : List (Nat × Bool)} (hB : ordGB (dl A ex ops) imp l = true) (hq : qtB (dl A ex ops) l = true)
    {rd : Option Nat} {n id : Nat} {k : List Item} {Q : Lv → (Nat → AV) → List AO → Prop} {ts : Nat → AV} {H : List AO}
    (h : symG P G Tab.nil (dl A ex ops) (wt (dl A ex ops)) imp (fun _ ts H => FW P G rd n k ts H Q) true l Go.Ab.WT ts H) : FW P G rd n (.code (.region id ops true) :: k) ts H Q :=
  FW.drawD hm hA hD hB (symG_runG (fun _ _ h => h) l _ _ _ hq h)
def A3 : Nat → Bool := fun i => i == 6 || i == 7
def ex3 : Nat → List Nat := fun i => if i = 6 then [2, 5] else if i = 7 then [2, 5, 6] else []
def imp3 : Nat → Bool := fun i => i == 2 || i == 5
def ord3 : List (Nat × Bool) := [(0, true), (1, true), (3, true), (4, true), (2, false), (5, false), (6, false), (7, false), (8, false), (9, false)]
def imp4 : Nat → Bool := fun i => i == 2 || i == 5 || i == 6 || i == 9 || i == 16 || i == 19 || i == 21
def ord4 : List (Nat × Bool) := [(0, true), (1, true), (3, true), (4, true), (7, true), (8, true), (10, true), (11, true), (12, true), (13, true), (14, true), (15, true), (17, true), (18, true), (2, false), (5, false), (6, false), (9, false), (16, false), (19, false), (20, false), (21, false), (22, true)]
theorem ok45 : codeOk 57 (Tryz.f45.body.getD .skip) = true := by kernel_rfl
theorem ro45 : resOk 57 Tryz.f45.results = true := by kernel_rfl
theorem dr45 : todoDr [3,4] [.code (Tryz.f45.body.getD .skip)] = true := by kernel_rfl
theorem of_second {a b c x y z p q r x' y' z' p' q' r' n m : Int} {s t u s' t' u' : Bool} {sv : AV} {H : List AO} {M D S mi clock b0 : Nat} (hsv : sv.isCell = true ∧ sv.isEl = true ∧ sv.cells = [sv])
    (hM : H[M]? = some (.cells [.mp mi])) (hD : H[D]? = some (.cells [I a, I b, I c])) (hS : H[S]? = some (.cells [sv])) (hm : H[mi]? = some (.map [(b0, PL x y z p q r s t u, I m)] clock))
    (hsc : Pur Tryz.prog GG 15 [.agg [I a, I b, I c], PL x' y' z' p' q' r' s' t' u', sv] (.tup [I n, I 0])) (hmn : samePl x' y' z' p' q' r' x y z p q r s' t' u' s t u → m = n) {K : AV → List AO → Prop}
    (hK : ∀ H', (∀ j o, j ≠ mi → H[j]? = some o → H'[j]? = some o) → K (I n) H') :
    AC Tryz.prog GG 44 [PL x' y' z' p' q' r' s' t' u', .ptr M 0, .ptr D 0, .ptr S 0] H K := by
  by_cases hsame : samePl x' y' z' p' q' r' x y z p q r s' t' u' s t u
  · have e := hmn hsame
    subst e
    exact of_known hM hm hsame (hK _ fun j o _ h => by rw [List.getElem?_append_left (lt_of_get h)]; exact h)
  · refine of_new hsv hM hD hS hm (find1f hsame) hsc (hK _ fun j o hj h => ?_)
    rw [List.getElem?_set_ne (fun e => hj e.symm), List.getElem?_append_left (lt_of_get h)]; exact h
def cmp2 (a b c x y z p q r x' y' z' p' q' r' m n : Int) (s t u s' t' u' : Bool) : Int :=
  orV (cmpV m n) (orV (cmpV (atV a b c x y z) (atV a b c x' y' z')) (orV (lexV p q r p' q' r') (lexV (bitV s) (bitV t) (bitV u) (bitV s') (bitV t') (bitV u'))))
set_option maxHeartbeats 8000000 in
set_option maxRecDepth 400000 in
theorem compare2_ac {a b c x y z p q r x' y' z' p' q' r' m n : Int} {s t u s' t' u' : Bool} {sv : AV} (hsv : sv.isCell = true ∧ sv.isEl = true ∧ sv.cells = [sv]) {H : List AO} {D F M S mi : Nat}
    (hD : H[D]? = some (.cells [I a, I b, I c])) (hF : H[F]? = some (.cells [.fn 44 [] [.ptr M 0, .ptr D 0, .ptr S 0]])) (hM : H[M]? = some (.cells [.mp mi])) (hS : H[S]? = some (.cells [sv])) (hmi : H[mi]? = some (.map [] 0))
    (hs1 : Pur Tryz.prog GG 15 [.agg [I a, I b, I c], PL x y z p q r s t u, sv] (.tup [I m, I 0])) (hs2 : Pur Tryz.prog GG 15 [.agg [I a, I b, I c], PL x' y' z' p' q' r' s' t' u', sv] (.tup [I n, I 0]))
    (hmn : samePl x' y' z' p' q' r' x y z p q r s' t' u' s t u → m = n) {K : AV → List AO → Prop} (hK : ∀ H', K (I (cmp2 a b c x y z p q r x' y' z' p' q' r' m n s t u s' t' u')) H') :
    AC Tryz.prog GG 45 [PL x y z p q r s t u, PL x' y' z' p' q' r' s' t' u', .ptr D 0, .ptr F 0] H K := by
  have qD : ∀ l, (H ++ l)[D]? = some (.cells [I a, I b, I c]) := fun l => by rw [List.getElem?_append_left (lt_of_get hD)]; exact hD
  have qF : ∀ l, (H ++ l)[F]? = some (.cells [.fn 44 [] [.ptr M 0, .ptr D 0, .ptr S 0]]) := fun l => by rw [List.getElem?_append_left (lt_of_get hF)]; exact hF
  have qM : ∀ l, (H ++ l)[M]? = some (.cells [.mp mi]) := fun l => by rw [List.getElem?_append_left (lt_of_get hM)]; exact hM
  have qS : ∀ l, (H ++ l)[S]? = some (.cells [sv]) := fun l => by rw [List.getElem?_append_left (lt_of_get hS)]; exact hS
  have qmi : ∀ l, (H ++ l)[mi]? = some (.map [] 0) := fun l => by rw [List.getElem?_append_left (lt_of_get hmi)]; exact hmi
  have hmiL := lt_of_get hmi
  have nD : D ≠ mi := fun e => by rw [e, hmi] at hD; cases hD
  have nF : F ≠ mi := fun e => by rw [e, hmi] at hF; cases hF
  have nM : M ≠ mi := fun e => by rw [e, hmi] at hM; cases hM
  have nS : S ≠ mi := fun e => by rw [e, hmi] at hS; cases hS
  refine AC.of_body (c := (Tryz.f45.body.getD .skip)) Tryz.func45 rfl (by decide) ok45 ro45 (by exact (by decide : 4 ≤ 57)) ?_
  refine walk hmix T25_ok [3, 4] 3000 0 dr45 ?_
  delta Tryz.f45
  simp only [Option.getD_some]
  simp (maxSteps := 2000000) only [T25, T24, T23, T22, T21, T20, T19, T18, T17, T16, T13, T12, T11, T10, T9, T8, T7, T6, T5, T4, T3, T2, T1, T0, resA, resL, resVar, Option.some.injEq, kw0, List.size_toArray, List.length_cons, List.length_nil, Nat.zero_add, Nat.reduceAdd, List.range_succ, List.range_zero, List.nil_append, List.cons_append, List.getElem?_toArray, List.getElem?_cons_zero, Go.Ab.put, ↓opK_some, ↓guK_none, kw1, roOf, aop, ev, argTs, List.getD_cons_zero, AV.isEl.eq_2, ↓reduceIte, AV.cells.eq_1, ↓roK_ok, List.getElem?_cons_succ, upd, Nat.reduceEqDiff, List.getD_cons_succ, List.length_append, List.append_assoc, ofV, aload, ty0, rdCells, qD, Nat.le_refl, List.drop_zero, List.take_succ_cons, List.take_nil, Option.map_some, ty1, ptrAdd, Nat.add_zero, getA0, Nat.reduceLeDiff, List.take_zero, tcall, Tab.ext, g46, List.map_cons, List.map_nil, List.append_nil, getA, List.contains_cons, beq_self_eq_true, Nat.reduceBEq, List.contains_nil, Bool.false_or, Bool.true_or, true_and]
  refine FW.walkD hmix (A := A3) (ex := ex3) (imp := imp3) (l := ord3) (fun a ha => by unfold A3 at ha; simp at ha; rcases ha with rfl | rfl <;> decide) (by kernel_rfl) (by kernel_rfl) (by kernel_rfl) ?_
  simp only [ord3]
  simp (maxSteps := 2000000) only [symG_t, dl_get, A3, Nat.reduceBEq, Bool.or_self, List.getElem?_toArray, List.getElem?_cons_zero, Option.map_some, Go.Ab.put, ↓opJ_some, ↓guK_none, kw1, roOf, aop, ty1, ptrAdd, ev, upd, Nat.reduceEqDiff, ↓reduceIte, Nat.zero_add, ↓roK_ok, List.getElem?_cons_succ, aload, ty0, rdCells, getA0, Nat.reduceAdd, List.length_cons, List.length_nil, Nat.le_refl, List.drop_succ_cons, List.drop_zero, List.take_succ_cons, List.take_nil, getA, symG_f, imp3, beq_self_eq_true, Bool.or_false, wAdd_ap, WT_ap, wat, clOf, implies_true, and_self, reduceCtorEq, true_and, and_true, forall_const, Bool.or_true, dlO, ex3, List.map_cons, List.map_nil, List.nil_append, Bool.false_eq_true, false_implies, symG_nil, astore, Option.some.injEq, wrCells, splice, List.append_assoc, reEl, List.take_zero, List.length_append, List.cons_append, tcall, Tab.nil, ↓roK_call]
  refine AC.pur (bits_pur s t u) ?_
  simp (maxSteps := 2000000) only [getA0, List.getElem?_cons_zero, List.length_cons, List.length_nil, Nat.zero_add, Nat.reduceAdd, Nat.le_refl, ↓reduceIte, List.drop_succ_cons, List.drop_zero, List.take_succ_cons, List.take_nil, Option.map_some, implies_true, getA, List.getElem?_cons_succ, and_self, AV.isEl.eq_2, AV.cells.eq_1, List.drop_nil, List.append_nil, ↓roK_ok, symG_f, dl_get, A3, Nat.reduceBEq, Bool.or_self, List.getElem?_toArray, imp3, Bool.false_eq_true, wAdd_ap, WT_ap, wat, clOf, reduceCtorEq, aop, aload, ty0, rdCells, ev, upd, true_and, and_true, false_implies, Go.Ab.put, symG_nil, ↓opJ_some, ↓guK_none, kw1, roOf, astore, Nat.reduceEqDiff, Option.some.injEq, wrCells, splice, List.take_zero, List.nil_append]
  refine AC.pur (bits_pur s' t' u') ?_
  simp (maxSteps := 2000000) only [getA0, List.getElem?_cons_zero, List.length_cons, List.length_nil, Nat.zero_add, Nat.reduceAdd, Nat.le_refl, ↓reduceIte, List.drop_succ_cons, List.drop_zero, List.take_succ_cons, List.take_nil, Option.map_some, implies_true, getA, List.getElem?_cons_succ, and_self, AV.isEl.eq_2, AV.cells.eq_1, List.append_assoc, List.cons_append, List.nil_append, List.length_append, setA, List.set_cons_succ, List.set_cons_zero, Nat.add_assoc, List.drop_nil, List.append_nil, ↓roK_ok, symG_nil, true_and]
  refine walk hmix T25_ok [3, 4] 3000 0 (by kernel_rfl) ?_
  simp (maxSteps := 2000000) only [T25, T24, T23, T22, T21, T20, T19, T18, T17, T16, T13, T12, T11, T10, T9, T8, T7, T6, T5, T4, T3, T2, T1, T0, kw0, List.contains_cons, Nat.reduceBEq, beq_self_eq_true, List.contains_nil, Bool.true_or, Bool.or_true, List.size_toArray, List.length_cons, List.length_nil, Nat.zero_add, Nat.reduceAdd, List.range_succ, List.range_zero, List.nil_append, List.cons_append, kw1]
  refine FW.walkG hmix (imp := imp4) (l := ord4) (by kernel_rfl) (by kernel_rfl) ?_
  simp only [ord4]
  simp (maxSteps := 2000000) only [symG_t, List.getElem?_toArray, List.getElem?_cons_zero, Go.Ab.put, ↓opJ_some, ↓guK_none, kw1, roOf, aop, aload, ty2, rdCells, ev, upd, Nat.reduceEqDiff, ↓reduceIte, argTs, List.getD_cons_succ, List.getD_cons_zero, qF, Nat.zero_add, List.length_cons, List.length_nil, Nat.le_refl, List.drop_zero, List.take_succ_cons, List.take_nil, Option.map_some, ↓roK_ok, List.getElem?_cons_succ, ty1, getA0, Nat.reduceAdd, getA, ptrAdd, Nat.add_zero, aSlice, ty0, Option.map_none, aBound, Nat.reduceLeDiff, Nat.reduceLT, or_true, and_self, Nat.reduceMul, Nat.reduceSub, symG_f, imp4, beq_self_eq_true, Nat.reduceBEq, Bool.or_false, wAdd_ap, WT_ap, wat, clOf, reduceCtorEq, true_and, implies_true, and_true, forall_const, Bool.or_true, Bool.or_self, Bool.false_eq_true, false_implies, symG_nil, tcall, Tab.nil, List.map_cons, List.map_nil, ↓roK_call, AV.cells.eq_2, Nat.reducePow, slv, List.reduceReplicate, ofV, aFillEs, List.set_cons_zero, List.set_cons_succ]
  refine of_new hsv (M := M) (D := D) (S := S) (m := mi) (qM _) (qD _) (qS _) (qmi _) (find0 _) hs1 ?_
  generalize hH1 : List.set _ mi _ = H1
  have f1 : ∀ (j : Nat) (o : AO), j ≠ mi → (H ++ [AO.cells [I x, I y, I z, I p, I q, I r, B s, B t, B u], AO.cells [I x', I y', I z', I p', I q', I r', B s', B t', B u'], AO.cells [I (bitV s), I (bitV t), I (bitV u)], AO.cells [I (bitV s'), I (bitV t'), I (bitV u')]])[j]? = some o → H1[j]? = some o := fun j o hj h => by
    rw [← hH1, List.getElem?_set_ne (fun e => hj e.symm), List.getElem?_append_left (lt_of_get h)]; exact h
  have F1 := f1 F _ nF (qF _)
  have D1 := f1 D _ nD (qD _)
  have M1 := f1 M _ nM (qM _)
  have S1 := f1 S _ nS (qS _)
  have A1 := f1 H.length _ (by omega) (by rw [getA0]; rfl)
  have B1 := f1 (H.length + 1) _ (by omega) (by rw [getA]; rfl)
  have C1 := f1 (H.length + 2) _ (by omega) (by rw [getA]; rfl)
  have E1 := f1 (H.length + 3) _ (by omega) (by rw [getA]; rfl)
  have m1 : H1[mi]? = some (.map ([] ++ [(0, PL x y z p q r s t u, I m)]) (0 + 1)) := by rw [← hH1, List.getElem?_set_self (by simp; omega)]
  clear f1 hH1
  simp (maxSteps := 2000000) only [F1, List.length_cons, List.length_nil, Nat.zero_add, Nat.le_refl, ↓reduceIte, List.take_succ_cons, List.take_nil, Option.map_some, implies_true, A1, Nat.reduceAdd, and_self, B1, true_and]
  refine of_second hsv M1 D1 S1 m1 hs2 hmn ?_
  intro H2 f2
  have F2 := f2 F _ nF F1
  have A2 := f2 H.length _ (by omega) A1
  have B2 := f2 (H.length + 1) _ (by omega) B1
  have C2 := f2 (H.length + 2) _ (by omega) C1
  have E2 := f2 (H.length + 3) _ (by omega) E1
  clear f2
  simp (maxSteps := 2000000) only [F2, List.length_cons, List.length_nil, Nat.zero_add, Nat.le_refl, ↓reduceIte, List.take_succ_cons, List.take_nil, Option.map_some, implies_true, A2, Nat.reduceAdd, and_self, B2, true_and]
  refine AC.pur (cmp_pur m n) ?_
  simp (maxSteps := 2000000) only [F2, List.length_cons, List.length_nil, Nat.zero_add, Nat.le_refl, ↓reduceIte, List.take_succ_cons, List.take_nil, Option.map_some, implies_true, A2, Nat.reduceAdd, and_self, B2, AV.isEl.eq_2, AV.cells.eq_2, true_and]
  refine AC.pur (cmp_pur _ _) ?_
  simp (maxSteps := 2000000) only [F2, List.length_cons, List.length_nil, Nat.zero_add, Nat.le_refl, ↓reduceIte, List.take_succ_cons, List.take_nil, Option.map_some, implies_true, A2, Nat.reduceAdd, and_self, B2, AV.isEl.eq_2, AV.cells.eq_2, true_and]
  refine scmp3 A2 B2 ?_
  simp (maxSteps := 2000000) only [F2, List.length_cons, List.length_nil, Nat.zero_add, Nat.le_refl, ↓reduceIte, List.take_succ_cons, List.take_nil, Option.map_some, implies_true, A2, Nat.reduceAdd, and_self, B2, AV.isEl.eq_2, AV.cells.eq_2, true_and]
  refine scmp0 C2 E2 ?_
  simp (maxSteps := 2000000) only [F2, List.length_cons, List.length_nil, Nat.zero_add, Nat.le_refl, ↓reduceIte, List.take_succ_cons, List.take_nil, Option.map_some, implies_true, A2, Nat.reduceAdd, and_self, B2, AV.isEl.eq_2, AV.cells.eq_2, ↓roK_ok, symG_f, List.getElem?_toArray, List.getElem?_cons_succ, List.getElem?_cons_zero, imp4, Nat.reduceBEq, Bool.or_self, beq_self_eq_true, Bool.or_true, wAdd_ap, WT_ap, wat, clOf, reduceCtorEq, aop, aload, ty2, rdCells, ev, upd, Nat.reduceEqDiff, argTs, List.getD_cons_succ, List.getD_cons_zero, List.drop_zero, true_and, ty1, and_true, aSlice, ty0, Option.map_none, aBound, Nat.reduceLeDiff, Nat.reduceLT, or_true, Nat.reduceMul, Nat.add_zero, Nat.reduceSub, forall_const, Go.Ab.put, symG_t, ↓opJ_some, ↓guK_none, kw1, roOf, symG_nil, tcall, Tab.nil, List.map_cons, List.map_nil, ↓roK_call]
  have F3 : ∀ l, (H2 ++ l)[F]? = _ := fun l => (List.getElem?_append_left (lt_of_get F2)).trans F2
  have A3 : ∀ l, (H2 ++ l)[H.length]? = _ := fun l => (List.getElem?_append_left (lt_of_get A2)).trans A2
  have B3 : ∀ l, (H2 ++ l)[H.length + 1]? = _ := fun l => (List.getElem?_append_left (lt_of_get B2)).trans B2
  refine or_ac (by rw [getA0]; rfl) ?_
  simp (maxSteps := 2000000) only [F3, List.length_cons, List.length_nil, Nat.zero_add, Nat.le_refl, ↓reduceIte, List.take_succ_cons, List.take_nil, Option.map_some, implies_true, A3, Nat.reduceAdd, and_self, B3, true_and]
  refine walk hmix T25_ok [] 3000 0 (by kernel_rfl) ?_
  simp (maxSteps := 2000000) only [T25, T24, T23, T22, T21, T20, T19, T18, T17, T16, T13, T12, T11, T10, T9, T8, T7, T6, T5, T4, T3, T2, T1, T0, kw0, reduceCtorEq, or_true, upd, ↓reduceIte, true_and]
  exact ⟨_, rfl, hK _⟩
end Go.Ab.Pd

set_option linter.unusedSimpArgs false
set_option linter.unusedVariables false
namespace Go.Ab.Pd
open Go.Proofs
def Memo (sc : Plc → Int) (es : List (Nat × AV × AV)) : Prop := ∀ e ∈ es, ∃ y : Plc, e.2.1 = y.av ∧ e.2.2 = I (sc y)
set_option maxRecDepth 100000 in
theorem find_memo {sc : Plc → Int} {x : Plc} : ∀ {es : List (Nat × AV × AV)}, Memo sc es → aFind Tryz.prog 34 x.av es = some none ∨ ∃ i, aFind Tryz.prog 34 x.av es = some (some i) ∧ (es.getD i default).2.2 = I (sc x)
  | [], _ => .inl rfl
  | e :: es, h => by
    obtain ⟨y, h1, h2⟩ := h e (by simp)
    have hq := eqPl x.x x.y x.z x.p x.q x.r y.x y.y y.z y.p y.q y.r x.s x.t x.u y.s y.t y.u
    by_cases hxy : samePl x.x x.y x.z x.p x.q x.r y.x y.y y.z y.p y.q y.r x.s x.t x.u y.s y.t y.u
    · rw [decide_eq_true hxy] at hq
      refine .inr ⟨0, ?_, ?_⟩
      · unfold aFind
        rw [h1]
        simp only [Plc.av]
        rw [hq]
      · rw [Plc.same.1 hxy]
        exact h2
    · rw [decide_eq_false hxy] at hq
      have hf : aFind Tryz.prog 34 x.av (e :: es) = (aFind Tryz.prog 34 x.av es).map fun (o : Option Nat) => o.map (· + 1) := by
        show (match aEq Tryz.prog 10000 34 x.av e.2.1 with
          | some true => some (some 0)
          | some false => (aFind Tryz.prog 34 x.av es).map fun (o : Option Nat) => o.map (· + 1)
          | none => none) = _
        rw [h1]
        simp only [Plc.av]
        rw [hq]
      rw [hf]
      rcases find_memo (es := es) (x := x) (fun z hz => h z (by simp [hz])) with k | ⟨i, k1, k2⟩
      · exact .inl (by rw [k]; rfl)
      · exact .inr ⟨i + 1, by rw [k1]; rfl, by simpa using k2⟩
def MemoStep (sc : Plc → Int) (mi : Nat) (H H' : List AO) : Prop := H.length ≤ H'.length ∧ (∀ j o, j ≠ mi → H[j]? = some o → H'[j]? = some o) ∧ ∃ es clock, H'[mi]? = some (.map es clock) ∧ Memo sc es
theorem MemoStep.refl {sc : Plc → Int} {mi clock : Nat} {H l : List AO} {es : List (Nat × AV × AV)} (h : H[mi]? = some (.map es clock)) (hm : Memo sc es) : MemoStep sc mi H (H ++ l) :=
  ⟨by simp, fun j o _ h => by rw [List.getElem?_append_left (lt_of_get h)]; exact h, es, clock, by rw [List.getElem?_append_left (lt_of_get h)]; exact h, hm⟩
set_option maxHeartbeats 4000000 in
set_option maxRecDepth 400000 in
theorem of_there {x : Plc} {n : Int} {H : List AO} {M D S m clock i : Nat} {es : List (Nat × AV × AV)}
    (hM : H[M]? = some (.cells [.mp m])) (hm : H[m]? = some (.map es clock)) (hf : aFind Tryz.prog 34 x.av es = some (some i)) (hi : (es.getD i default).2.2 = I n) {K : AV → List AO → Prop}
    (hK : K (I n) (H ++ [AO.cells [I x.x, I x.y, I x.z, I x.p, I x.q, I x.r, B x.s, B x.t, B x.u]])) :
    AC Tryz.prog GG 44 [x.av, .ptr M 0, .ptr D 0, .ptr S 0] H K := by
  have qM : ∀ l, (H ++ l)[M]? = some (.cells [.mp m]) := fun l => by rw [List.getElem?_append_left (lt_of_get hM)]; exact hM
  have qm : ∀ l, (H ++ l)[m]? = some (.map es clock) := fun l => by rw [List.getElem?_append_left (lt_of_get hm)]; exact hm
  have hck := ckPl x.x x.y x.z x.p x.q x.r x.s x.t x.u
  simp only [Plc.av] at hf
  show AC Tryz.prog GG 44 [PL x.x x.y x.z x.p x.q x.r x.s x.t x.u, .ptr M 0, .ptr D 0, .ptr S 0] H K
  refine AC.of_body (c := (Tryz.f44.body.getD .skip)) Tryz.func44 rfl (by decide) ok44 ro44 (by exact (by decide : 4 ≤ 27)) ?_
  refine walk hmix T25_ok [] 3000 0 dr44 ?_
  delta Tryz.f44
  simp only [Option.getD_some]
  simp (maxSteps := 2000000) only [T25, T24, T23, T22, T21, T20, T19, T18, T17, T16, T13, T12, T11, T10, T9, T8, T7, T6, T5, T4, T3, T2, T1, T0, resA, resL, resVar, Option.some.injEq, kw0, List.size_toArray, List.length_cons, List.length_nil, Nat.zero_add, Nat.reduceAdd, List.range_succ, List.range_zero, List.nil_append, List.cons_append, List.getElem?_toArray, List.getElem?_cons_zero, Go.Ab.put, ↓opK_some, ↓guK_none, kw1, roOf, aop, ev, argTs, List.getD_cons_zero, AV.isEl.eq_2, ↓reduceIte, AV.cells.eq_1, ↓roK_ok, List.getElem?_cons_succ, ofV, aload, ty2, rdCells, upd, Nat.reduceEqDiff, List.getD_cons_succ, qM, Nat.le_refl, List.drop_zero, List.take_succ_cons, List.take_nil, Option.map_some, ty1, get_concat, aop2, aLookup, hck, qm, hf, lkRes, hi, Bool.not_true, ↓gdK_false, reduceCtorEq, or_true, true_and]
  exact ⟨_, rfl, hK⟩
theorem of_any {sc : Plc → Int} {a b c : Int} {x : Plc} {sv : AV} {H : List AO} {M D S m : Nat} (hsv : sv.isCell = true ∧ sv.isEl = true ∧ sv.cells = [sv])
    (hM : H[M]? = some (.cells [.mp m])) (hD : H[D]? = some (.cells [I a, I b, I c])) (hS : H[S]? = some (.cells [sv])) (hm : ∃ es clock, H[m]? = some (.map es clock) ∧ Memo sc es)
    (hsc : Pur Tryz.prog GG 15 [.agg [I a, I b, I c], x.av, sv] (.tup [I (sc x), I 0])) {K : AV → List AO → Prop} (hK : ∀ H', MemoStep sc m H H' → K (I (sc x)) H') :
    AC Tryz.prog GG 44 [x.av, .ptr M 0, .ptr D 0, .ptr S 0] H K := by
  obtain ⟨es, clock, hes, hmo⟩ := hm
  rcases find_memo (x := x) hmo with k | ⟨i, k1, k2⟩
  · refine of_new hsv hM hD hS hes k hsc (hK _ ⟨by simp, fun j o hj h => ?_, _, _, List.getElem?_set_self (by have := lt_of_get hes; simp; omega), fun e he => ?_⟩)
    · rw [List.getElem?_set_ne (fun e => hj e.symm), List.getElem?_append_left (lt_of_get h)]; exact h
    · rcases List.mem_append.1 he with he | he
      · exact hmo e he
      · rw [List.mem_singleton] at he
        subst he
        exact ⟨x, rfl, rfl⟩
  · exact of_there hM hes k1 k2 (hK _ (MemoStep.refl hes hmo))
def cmpS (a b c : Int) (sc : Plc → Int) (X Y : Plc) : Int := cmp2 a b c X.x X.y X.z X.p X.q X.r Y.x Y.y Y.z Y.p Y.q Y.r (sc X) (sc Y) X.s X.t X.u Y.s Y.t Y.u
set_option maxHeartbeats 8000000 in
set_option maxRecDepth 400000 in
theorem compare2_any {sc : Plc → Int} {a b c : Int} {X Y : Plc} {sv : AV} (hsv : sv.isCell = true ∧ sv.isEl = true ∧ sv.cells = [sv]) {H : List AO} {D F M S mi : Nat}
    (hD : H[D]? = some (.cells [I a, I b, I c])) (hF : H[F]? = some (.cells [.fn 44 [] [.ptr M 0, .ptr D 0, .ptr S 0]])) (hM : H[M]? = some (.cells [.mp mi])) (hS : H[S]? = some (.cells [sv])) (hmi : ∃ es clock, H[mi]? = some (.map es clock) ∧ Memo sc es)
    (hs1 : Pur Tryz.prog GG 15 [.agg [I a, I b, I c], X.av, sv] (.tup [I (sc X), I 0])) (hs2 : Pur Tryz.prog GG 15 [.agg [I a, I b, I c], Y.av, sv] (.tup [I (sc Y), I 0]))
    {K : AV → List AO → Prop} (hK : ∀ H', MemoStep sc mi H H' → K (I (cmpS a b c sc X Y)) H') :
    AC Tryz.prog GG 45 [X.av, Y.av, .ptr D 0, .ptr F 0] H K := by
  obtain ⟨x, y, z, p, q, r, s, t, u⟩ := X
  obtain ⟨x', y', z', p', q', r', s', t', u'⟩ := Y
  have hmi0 := hmi
  obtain ⟨es, clock, hmi, hmo⟩ := hmi
  generalize hm' : sc ⟨x, y, z, p, q, r, s, t, u⟩ = m at hs1
  generalize hn' : sc ⟨x', y', z', p', q', r', s', t', u'⟩ = n at hs2
  have hcm : cmpS a b c sc ⟨x, y, z, p, q, r, s, t, u⟩ ⟨x', y', z', p', q', r', s', t', u'⟩ = cmp2 a b c x y z p q r x' y' z' p' q' r' m n s t u s' t' u' := by
    unfold cmpS
    simp only
    rw [hm', hn']
  rw [hcm] at hK
  show AC Tryz.prog GG 45 [PL x y z p q r s t u, PL x' y' z' p' q' r' s' t' u', .ptr D 0, .ptr F 0] H K
  have qD : ∀ l, (H ++ l)[D]? = some (.cells [I a, I b, I c]) := fun l => by rw [List.getElem?_append_left (lt_of_get hD)]; exact hD
  have qF : ∀ l, (H ++ l)[F]? = some (.cells [.fn 44 [] [.ptr M 0, .ptr D 0, .ptr S 0]]) := fun l => by rw [List.getElem?_append_left (lt_of_get hF)]; exact hF
  have qM : ∀ l, (H ++ l)[M]? = some (.cells [.mp mi]) := fun l => by rw [List.getElem?_append_left (lt_of_get hM)]; exact hM
  have qS : ∀ l, (H ++ l)[S]? = some (.cells [sv]) := fun l => by rw [List.getElem?_append_left (lt_of_get hS)]; exact hS
  have qmi : ∀ l, (H ++ l)[mi]? = some (.map es clock) := fun l => by rw [List.getElem?_append_left (lt_of_get hmi)]; exact hmi
  have hmiL := lt_of_get hmi
  have nD : D ≠ mi := fun e => by rw [e, hmi] at hD; cases hD
  have nF : F ≠ mi := fun e => by rw [e, hmi] at hF; cases hF
  have nM : M ≠ mi := fun e => by rw [e, hmi] at hM; cases hM
  have nS : S ≠ mi := fun e => by rw [e, hmi] at hS; cases hS
  refine AC.of_body (c := (Tryz.f45.body.getD .skip)) Tryz.func45 rfl (by decide) ok45 ro45 (by exact (by decide : 4 ≤ 57)) ?_
  refine walk hmix T25_ok [3, 4] 3000 0 dr45 ?_
  delta Tryz.f45
  simp only [Option.getD_some]
  simp (maxSteps := 2000000) only [T25, T24, T23, T22, T21, T20, T19, T18, T17, T16, T13, T12, T11, T10, T9, T8, T7, T6, T5, T4, T3, T2, T1, T0, resA, resL, resVar, Option.some.injEq, kw0, List.size_toArray, List.length_cons, List.length_nil, Nat.zero_add, Nat.reduceAdd, List.range_succ, List.range_zero, List.nil_append, List.cons_append, List.getElem?_toArray, List.getElem?_cons_zero, Go.Ab.put, ↓opK_some, ↓guK_none, kw1, roOf, aop, ev, argTs, List.getD_cons_zero, AV.isEl.eq_2, ↓reduceIte, AV.cells.eq_1, ↓roK_ok, List.getElem?_cons_succ, upd, Nat.reduceEqDiff, List.getD_cons_succ, List.length_append, List.append_assoc, ofV, aload, ty0, rdCells, qD, Nat.le_refl, List.drop_zero, List.take_succ_cons, List.take_nil, Option.map_some, ty1, ptrAdd, Nat.add_zero, getA0, Nat.reduceLeDiff, List.take_zero, tcall, Tab.ext, g46, List.map_cons, List.map_nil, List.append_nil, getA, List.contains_cons, beq_self_eq_true, Nat.reduceBEq, List.contains_nil, Bool.false_or, Bool.true_or, true_and]
  refine FW.walkD hmix (A := A3) (ex := ex3) (imp := imp3) (l := ord3) (fun a ha => by unfold A3 at ha; simp at ha; rcases ha with rfl | rfl <;> decide) (by kernel_rfl) (by kernel_rfl) (by kernel_rfl) ?_
  simp only [ord3]
  simp (maxSteps := 2000000) only [symG_t, dl_get, A3, Nat.reduceBEq, Bool.or_self, List.getElem?_toArray, List.getElem?_cons_zero, Option.map_some, Go.Ab.put, ↓opJ_some, ↓guK_none, kw1, roOf, aop, ty1, ptrAdd, ev, upd, Nat.reduceEqDiff, ↓reduceIte, Nat.zero_add, ↓roK_ok, List.getElem?_cons_succ, aload, ty0, rdCells, getA0, Nat.reduceAdd, List.length_cons, List.length_nil, Nat.le_refl, List.drop_succ_cons, List.drop_zero, List.take_succ_cons, List.take_nil, getA, symG_f, imp3, beq_self_eq_true, Bool.or_false, wAdd_ap, WT_ap, wat, clOf, implies_true, and_self, reduceCtorEq, true_and, and_true, forall_const, Bool.or_true, dlO, ex3, List.map_cons, List.map_nil, List.nil_append, Bool.false_eq_true, false_implies, symG_nil, astore, Option.some.injEq, wrCells, splice, List.append_assoc, reEl, List.take_zero, List.length_append, List.cons_append, tcall, Tab.nil, ↓roK_call]
  refine AC.pur (bits_pur s t u) ?_
  simp (maxSteps := 2000000) only [getA0, List.getElem?_cons_zero, List.length_cons, List.length_nil, Nat.zero_add, Nat.reduceAdd, Nat.le_refl, ↓reduceIte, List.drop_succ_cons, List.drop_zero, List.take_succ_cons, List.take_nil, Option.map_some, implies_true, getA, List.getElem?_cons_succ, and_self, AV.isEl.eq_2, AV.cells.eq_1, List.drop_nil, List.append_nil, ↓roK_ok, symG_f, dl_get, A3, Nat.reduceBEq, Bool.or_self, List.getElem?_toArray, imp3, Bool.false_eq_true, wAdd_ap, WT_ap, wat, clOf, reduceCtorEq, aop, aload, ty0, rdCells, ev, upd, true_and, and_true, false_implies, Go.Ab.put, symG_nil, ↓opJ_some, ↓guK_none, kw1, roOf, astore, Nat.reduceEqDiff, Option.some.injEq, wrCells, splice, List.take_zero, List.nil_append]
  refine AC.pur (bits_pur s' t' u') ?_
  simp (maxSteps := 2000000) only [getA0, List.getElem?_cons_zero, List.length_cons, List.length_nil, Nat.zero_add, Nat.reduceAdd, Nat.le_refl, ↓reduceIte, List.drop_succ_cons, List.drop_zero, List.take_succ_cons, List.take_nil, Option.map_some, implies_true, getA, List.getElem?_cons_succ, and_self, AV.isEl.eq_2, AV.cells.eq_1, List.append_assoc, List.cons_append, List.nil_append, List.length_append, setA, List.set_cons_succ, List.set_cons_zero, Nat.add_assoc, List.drop_nil, List.append_nil, ↓roK_ok, symG_nil, true_and]
  refine walk hmix T25_ok [3, 4] 3000 0 (by kernel_rfl) ?_
  simp (maxSteps := 2000000) only [T25, T24, T23, T22, T21, T20, T19, T18, T17, T16, T13, T12, T11, T10, T9, T8, T7, T6, T5, T4, T3, T2, T1, T0, kw0, List.contains_cons, Nat.reduceBEq, beq_self_eq_true, List.contains_nil, Bool.true_or, Bool.or_true, List.size_toArray, List.length_cons, List.length_nil, Nat.zero_add, Nat.reduceAdd, List.range_succ, List.range_zero, List.nil_append, List.cons_append, kw1]
  refine FW.walkG hmix (imp := imp4) (l := ord4) (by kernel_rfl) (by kernel_rfl) ?_
  simp only [ord4]
  simp (maxSteps := 2000000) only [symG_t, List.getElem?_toArray, List.getElem?_cons_zero, Go.Ab.put, ↓opJ_some, ↓guK_none, kw1, roOf, aop, aload, ty2, rdCells, ev, upd, Nat.reduceEqDiff, ↓reduceIte, argTs, List.getD_cons_succ, List.getD_cons_zero, qF, Nat.zero_add, List.length_cons, List.length_nil, Nat.le_refl, List.drop_zero, List.take_succ_cons, List.take_nil, Option.map_some, ↓roK_ok, List.getElem?_cons_succ, ty1, getA0, Nat.reduceAdd, getA, ptrAdd, Nat.add_zero, aSlice, ty0, Option.map_none, aBound, Nat.reduceLeDiff, Nat.reduceLT, or_true, and_self, Nat.reduceMul, Nat.reduceSub, symG_f, imp4, beq_self_eq_true, Nat.reduceBEq, Bool.or_false, wAdd_ap, WT_ap, wat, clOf, reduceCtorEq, true_and, implies_true, and_true, forall_const, Bool.or_true, Bool.or_self, Bool.false_eq_true, false_implies, symG_nil, tcall, Tab.nil, List.map_cons, List.map_nil, ↓roK_call, AV.cells.eq_2, Nat.reducePow, slv, List.reduceReplicate, ofV, aFillEs, List.set_cons_zero, List.set_cons_succ]
  refine of_any (sc := sc) (x := ⟨x, y, z, p, q, r, s, t, u⟩) hsv (M := M) (D := D) (S := S) (m := mi) (qM _) (qD _) (qS _) ⟨es, clock, qmi _, hmo⟩ (by rw [hm']; exact hs1) ?_
  rw [hm']
  intro H1 ms1
  obtain ⟨len1, f1, es1, clock1, m1, hmo1⟩ := ms1
  have F1 := f1 F _ nF (qF _)
  have D1 := f1 D _ nD (qD _)
  have M1 := f1 M _ nM (qM _)
  have S1 := f1 S _ nS (qS _)
  have A1 := f1 H.length _ (by omega) (by rw [getA0]; rfl)
  have B1 := f1 (H.length + 1) _ (by omega) (by rw [getA]; rfl)
  have C1 := f1 (H.length + 2) _ (by omega) (by rw [getA]; rfl)
  have E1 := f1 (H.length + 3) _ (by omega) (by rw [getA]; rfl)
  have f01 : ∀ j o, j ≠ mi → H[j]? = some o → H1[j]? = some o := fun j o hj h => f1 j o hj (by rw [List.getElem?_append_left (lt_of_get h)]; exact h)
  have len01 : H.length ≤ H1.length := Nat.le_trans (by simp) len1
  clear f1 len1
  simp (maxSteps := 2000000) only [F1, List.length_cons, List.length_nil, Nat.zero_add, Nat.le_refl, ↓reduceIte, List.take_succ_cons, List.take_nil, Option.map_some, implies_true, A1, Nat.reduceAdd, and_self, B1, true_and]
  refine of_any (sc := sc) (x := ⟨x', y', z', p', q', r', s', t', u'⟩) hsv M1 D1 S1 ⟨es1, clock1, m1, hmo1⟩ (by rw [hn']; exact hs2) ?_
  rw [hn']
  intro H2 ms2
  obtain ⟨len2, f2, es2, clock2, m2, hmo2⟩ := ms2
  have step2 : ∀ l, MemoStep sc mi H (H2 ++ l) := fun l => ⟨by simp; omega, fun j o hj h => by
    have := f2 j o hj (f01 j o hj h)
    rw [List.getElem?_append_left (lt_of_get this)]; exact this, es2, clock2, by rw [List.getElem?_append_left (lt_of_get m2)]; exact m2, hmo2⟩
  have F2 := f2 F _ nF F1
  have A2 := f2 H.length _ (by omega) A1
  have B2 := f2 (H.length + 1) _ (by omega) B1
  have C2 := f2 (H.length + 2) _ (by omega) C1
  have E2 := f2 (H.length + 3) _ (by omega) E1
  clear f2 f01
  simp (maxSteps := 2000000) only [F2, List.length_cons, List.length_nil, Nat.zero_add, Nat.le_refl, ↓reduceIte, List.take_succ_cons, List.take_nil, Option.map_some, implies_true, A2, Nat.reduceAdd, and_self, B2, true_and]
  refine AC.pur (cmp_pur m n) ?_
  simp (maxSteps := 2000000) only [F2, List.length_cons, List.length_nil, Nat.zero_add, Nat.le_refl, ↓reduceIte, List.take_succ_cons, List.take_nil, Option.map_some, implies_true, A2, Nat.reduceAdd, and_self, B2, AV.isEl.eq_2, AV.cells.eq_2, true_and]
  refine AC.pur (cmp_pur _ _) ?_
  simp (maxSteps := 2000000) only [F2, List.length_cons, List.length_nil, Nat.zero_add, Nat.le_refl, ↓reduceIte, List.take_succ_cons, List.take_nil, Option.map_some, implies_true, A2, Nat.reduceAdd, and_self, B2, AV.isEl.eq_2, AV.cells.eq_2, true_and]
  refine scmp3 A2 B2 ?_
  simp (maxSteps := 2000000) only [F2, List.length_cons, List.length_nil, Nat.zero_add, Nat.le_refl, ↓reduceIte, List.take_succ_cons, List.take_nil, Option.map_some, implies_true, A2, Nat.reduceAdd, and_self, B2, AV.isEl.eq_2, AV.cells.eq_2, true_and]
  refine scmp0 C2 E2 ?_
  simp (maxSteps := 2000000) only [F2, List.length_cons, List.length_nil, Nat.zero_add, Nat.le_refl, ↓reduceIte, List.take_succ_cons, List.take_nil, Option.map_some, implies_true, A2, Nat.reduceAdd, and_self, B2, AV.isEl.eq_2, AV.cells.eq_2, ↓roK_ok, symG_f, List.getElem?_toArray, List.getElem?_cons_succ, List.getElem?_cons_zero, imp4, Nat.reduceBEq, Bool.or_self, beq_self_eq_true, Bool.or_true, wAdd_ap, WT_ap, wat, clOf, reduceCtorEq, aop, aload, ty2, rdCells, ev, upd, Nat.reduceEqDiff, argTs, List.getD_cons_succ, List.getD_cons_zero, List.drop_zero, true_and, ty1, and_true, aSlice, ty0, Option.map_none, aBound, Nat.reduceLeDiff, Nat.reduceLT, or_true, Nat.reduceMul, Nat.add_zero, Nat.reduceSub, forall_const, Go.Ab.put, symG_t, ↓opJ_some, ↓guK_none, kw1, roOf, symG_nil, tcall, Tab.nil, List.map_cons, List.map_nil, ↓roK_call]
  have F3 : ∀ l, (H2 ++ l)[F]? = _ := fun l => (List.getElem?_append_left (lt_of_get F2)).trans F2
  have A3 : ∀ l, (H2 ++ l)[H.length]? = _ := fun l => (List.getElem?_append_left (lt_of_get A2)).trans A2
  have B3 : ∀ l, (H2 ++ l)[H.length + 1]? = _ := fun l => (List.getElem?_append_left (lt_of_get B2)).trans B2
  refine or_ac (by rw [getA0]; rfl) ?_
  simp (maxSteps := 2000000) only [F3, List.length_cons, List.length_nil, Nat.zero_add, Nat.le_refl, ↓reduceIte, List.take_succ_cons, List.take_nil, Option.map_some, implies_true, A3, Nat.reduceAdd, and_self, B3, true_and]
  refine walk hmix T25_ok [] 3000 0 (by kernel_rfl) ?_
  simp (maxSteps := 2000000) only [T25, T24, T23, T22, T21, T20, T19, T18, T17, T16, T13, T12, T11, T10, T9, T8, T7, T6, T5, T4, T3, T2, T1, T0, kw0, reduceCtorEq, or_true, upd, ↓reduceIte, true_and]
  exact ⟨_, rfl, hK _ (step2 _)⟩
end Go.Ab.Pd

set_option linter.unusedSimpArgs false
set_option linter.unusedVariables false
namespace Go.Ab.Pd
open Go.Proofs
def imp5 : Nat → Bool := fun i => i == 2 || i == 5
def ord5 : List (Nat × Bool) := [(0, true), (1, true), (3, true), (4, true), (2, false), (5, false), (6, true), (7, true), (8, true)]
theorem ok13 : codeOk 50 (Tryz.f13.body.getD .skip) = true := by kernel_rfl
theorem ro13 : resOk 50 Tryz.f13.results = true := by kernel_rfl
theorem dr13 : todoDr [11] [.code (Tryz.f13.body.getD .skip)] = true := by kernel_rfl
abbrev AR5 (a b c x y z p q r x' y' z' p' q' r' : Int) (s t u s' t' u' : Bool) (sv : AV) : List AV := [.agg [I a, I b, I c], PL x y z p q r s t u, PL x' y' z' p' q' r' s' t' u', sv]
set_option maxHeartbeats 8000000 in
set_option maxRecDepth 400000 in
theorem better_of {a b c x y z p q r x' y' z' p' q' r' m n : Int} {s t u s' t' u' : Bool} {sv : AV} (qs : IsSet sv) (hd : okD a b c) (he : Pur Tryz.prog GG 29 [I (manyV a b c), sv] (I 0)) (h1 : pchk a b c x y z p q r s t u = 0) (h2 : pchk a b c x' y' z' p' q' r' s' t' u' = 0)
    (hs1 : Pur Tryz.prog GG 15 [.agg [I a, I b, I c], PL x y z p q r s t u, sv] (.tup [I m, I 0])) (hs2 : Pur Tryz.prog GG 15 [.agg [I a, I b, I c], PL x' y' z' p' q' r' s' t' u', sv] (.tup [I n, I 0])) (hmn : samePl x' y' z' p' q' r' x y z p q r s' t' u' s t u → m = n) :
    Pur Tryz.prog GG 13 (AR5 a b c x y z p q r x' y' z' p' q' r' s t u s' t' u' sv) (.tup [B (decide (cmp2 a b c x y z p q r x' y' z' p' q' r' m n s t u s' t' u' < 0)), I 0]) := by
  have hpu := qs.pur
  have hc := chk_ok.2 hd
  obtain ⟨b1, b2, b3⟩ := qs.cell
  refine Pur.of_alone ggp (by simp [AV.purL, AV.pur, hpu]) (AC.of_body (c := (Tryz.f13.body.getD .skip)) Tryz.func13 rfl (by decide) ok13 ro13 (by exact (by decide : 4 ≤ 50)) ?_)
  refine walk hmix T25_ok [11] 3000 3 dr13 ?_
  delta Tryz.f13
  simp only [Option.getD_some]
  simp (maxSteps := 2000000) only [T25, T24, T23, T22, T21, T20, T19, T18, T17, T16, T13, T12, T11, T10, T9, T8, T7, T6, T5, T4, T3, T2, T1, T0, resA, resL, resVar, Option.some.injEq, kw0, List.size_toArray, List.length_cons, List.length_nil, Nat.zero_add, Nat.reduceAdd, List.range_succ, List.range_zero, List.nil_append, List.cons_append, List.getElem?_toArray, List.getElem?_cons_zero, Go.Ab.put, ↓opK_some, ↓guK_none, kw1, roOf, aop, ev, argTs, List.getD_cons_zero, AV.isEl.eq_2, ↓reduceIte, AV.cells.eq_1, ↓roK_ok, List.getElem?_cons_succ, upd, Nat.reduceEqDiff, List.getD_cons_succ, ofV, aload, ty0, rdCells, Nat.le_refl, List.drop_zero, List.take_succ_cons, List.take_nil, Option.map_some, tcall, Tab.ext, g22, List.map_cons, List.map_nil, List.append_nil, hc, aBin, aBinI, bne_eq_decide', ne_eq, not_true_eq_false, decide_false, ↓guK_some, Option.bind_some, ↓tmK_some, ↓gsK_false, beq_self_eq_true, Tab.nil, ↓roK_call, true_and]
  refine AC.pur he ?_
  refine walk hmix T25_ok [11] 3000 3 (by kernel_rfl) ?_
  simp (maxSteps := 2000000) only [T25, T24, T23, T22, T21, T20, T19, T18, T17, T16, T13, T12, T11, T10, T9, T8, T7, T6, T5, T4, T3, T2, T1, T0, kw0, List.getElem?_toArray, List.getElem?_cons_succ, List.getElem?_cons_zero, Go.Ab.put, ↓opK_some, ↓guK_some, Option.bind_some, ↓tmK_some, kw1, upd, Nat.reduceEqDiff, ↓reduceIte, ↓gsK_false, beq_self_eq_true, roOf, aop, aBin, ev, ofV, aBinI, bne_eq_decide', ne_eq, not_true_eq_false, decide_false, Option.map_some, ↓roK_ok, ↓guK_none, pickA, cond_false, ↓gdK_false, List.size_toArray, List.length_cons, List.length_nil, Nat.zero_add, Nat.reduceAdd, List.range_succ, List.range_zero, List.nil_append, List.cons_append, aload, ty1, rdCells, Nat.le_refl, List.drop_zero, List.take_succ_cons, List.take_nil, AV.cells.eq_1, Nat.reduceMul, Nat.reducePow, Nat.reduceLeDiff, slv, List.reduceReplicate, argTs, List.map_cons, List.map_nil, aFillEs, AV.isEl.eq_2, Nat.reduceLT, and_self, List.set_cons_zero, List.set_cons_succ, Int.cast_ofNat_Int, Int.reduceLT, decide_true, ↓gdK_true, aInt, Int.reduceLE, Int.toNat_zero, Nat.add_zero, List.getD_cons_zero, astore, wrCells, splice, List.take_zero, List.drop_succ_cons, List.drop_nil, List.append_nil, ty0, tcall, Tab.ext, g33, h1, Int.zero_add, Int.reduceNeg, wrapL, Int.toNat_one, List.getD_cons_succ, h2, Int.reduceAdd, exitTo, reduceCtorEq, or_false, ↓exK_some, List.contains_cons, List.contains_nil, Bool.true_or, true_and]
  refine FW.walkG hmix (imp := imp5) (l := ord5) (by kernel_rfl) (by kernel_rfl) ?_
  simp only [ord5]
  simp (maxSteps := 2000000) only [symG_t, List.getElem?_toArray, List.getElem?_cons_zero, Go.Ab.put, ↓opJ_some, ↓guK_none, kw1, roOf, aop, aload, ty0, rdCells, ev, upd, Nat.reduceEqDiff, ↓reduceIte, Nat.zero_add, List.length_cons, List.length_nil, Nat.reduceAdd, Nat.le_refl, List.drop_zero, List.take_succ_cons, List.take_nil, Option.map_some, ↓roK_ok, List.getElem?_cons_succ, argTs, List.getD_cons_succ, List.getD_cons_zero, ty1, symG_f, imp5, beq_self_eq_true, Nat.reduceBEq, Bool.or_false, wAdd_ap, WT_ap, wat, clOf, reduceCtorEq, true_and, implies_true, and_true, forall_const, Bool.or_true, aBin, ofV, aBinI, tcall, Tab.nil, List.map_cons, List.map_nil, ↓roK_call]
  refine compare_ac ⟨b1, b2, b3⟩ ?_
  simp (maxSteps := 2000000) only [List.length_cons, List.length_nil, Nat.zero_add, Nat.reduceAdd, List.cons_append, List.nil_append, List.getElem?_cons_zero, Nat.le_refl, ↓reduceIte, List.take_succ_cons, List.take_nil, Option.map_some, implies_true, List.getElem?_cons_succ, and_self, ↓roK_call, true_and]
  refine compare2_ac ⟨b1, b2, b3⟩ (M := 9) (S := 7) (mi := 8) rfl rfl rfl rfl rfl hs1 hs2 hmn ?_
  intro H'
  refine ⟨⟨⟨fun h => absurd (h.symm.trans (by kernel_rfl)) Bool.false_ne_true, fun h => absurd (h.symm.trans (by kernel_rfl)) Bool.false_ne_true⟩, fun h => absurd (h.symm.trans (by kernel_rfl)) Bool.false_ne_true⟩, ?_⟩
  simp (maxSteps := 2000000) only [↓reduceIte, Option.map_some, ↓roK_ok, symG_t, List.getElem?_toArray, List.getElem?_cons_succ, List.getElem?_cons_zero, Go.Ab.put, ↓opJ_some, ↓guK_none, kw1, roOf, aop, ev, upd, ofV, symG_nil, true_and]
  refine walk hmix T25_ok [11] 3000 3 (by kernel_rfl) ?_
  simp (maxSteps := 2000000) only [T25, T24, T23, T22, T21, T20, T19, T18, T17, T16, T13, T12, T11, T10, T9, T8, T7, T6, T5, T4, T3, T2, T1, T0, kw0, reduceCtorEq, or_true, upd, Nat.reduceEqDiff, ↓reduceIte, true_and]
  exact ⟨_, rfl, done_pur rfl rfl⟩
end Go.Ab.Pd
