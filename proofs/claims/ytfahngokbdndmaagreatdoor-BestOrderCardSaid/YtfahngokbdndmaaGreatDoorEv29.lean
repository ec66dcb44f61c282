/- One of the texts that this claim stands on. -/
import Derived.Test.YtfahngokbdndmaaGreatDoorEv27
import Derived.Test.YtfahngokbdndmaaGreatDoorEv21
import Derived.Test.YtfahngokbdndmaaGreatDoorEv28
import Derived.Laws.Bits64
set_option linter.unusedSimpArgs false
set_option linter.unusedVariables false
namespace Go.Ab.Pd
open Go.Proofs
def inU (w : Int) : Prop := 0 ≤ w ∧ w < 2 ^ 64
theorem wrap_inU (n : Int) : inU (IntKind.u64.wrap n) := by
  rw [IntKind.wrap_u64]
  exact ⟨Int.emod_nonneg _ (by decide), Int.emod_lt_of_pos _ (by decide)⟩
def orW (w k : Int) : Int := IntKind.u64.wrap (((BitVec.ofInt IntKind.u64.bits w ||| BitVec.ofInt IntKind.u64.bits (IntKind.u64.wrap (1 * 2 ^ (min (k.tmod 64).toNat IntKind.u64.bits)))).toNat : Nat) : Int)
def setW (ws : List Int) (k : Int) : List Int := ws.set (k.tdiv 64).toNat (orW (ws.getD (k.tdiv 64).toNat 0) k)
def ofL (n : Int) (l : List Int) : List Int := l.foldl setW (List.replicate (wordsV n).toNat 0)
theorem setW_length (ws : List Int) (k : Int) : (setW ws k).length = ws.length := by simp [setW]
theorem setW_inU {ws : List Int} (h : ∀ w ∈ ws, inU w) (k : Int) : ∀ w ∈ setW ws k, inU w := by
  intro w hw
  rcases List.mem_or_eq_of_mem_set hw with h1 | h1
  · exact h w h1
  · rw [h1]; exact wrap_inU _
theorem foldW_inU : ∀ (l : List Int) {ws : List Int}, (∀ w ∈ ws, inU w) → ∀ w ∈ l.foldl setW ws, inU w
  | [], ws, h => h
  | k :: l, ws, h => by rw [List.foldl_cons]; exact foldW_inU l (setW_inU h k)
theorem ofL_inU (n : Int) (l : List Int) : ∀ w ∈ ofL n l, inU w := foldW_inU l (fun w hw => by
  rw [List.eq_of_mem_replicate hw]; exact ⟨by decide, by decide⟩)
theorem aLenI (l : List Int) : aLen Tryz.prog 64 (frS (l.map IA)) = some (l.length : Int) := by rw [aLen_frS un64, List.length_map]
theorem aIdxI {l : List Int} (i : Int) (H : List AO) (h : 0 < l.length) : aIdxAddr Tryz.prog 64 (frS (l.map IA)) i H = some ((0 ≤ i ∧ i < (l.length : Int)) ∧ ((l.map IA).getD i.toNat .un).cells.length = 1, .iptr ((l.map IA).getD i.toNat .un).cells 0) := by
  rw [frS_ne (by simpa using h), aIdx_isl un64 sz3, List.length_map]
theorem aIdxS {id len cap : Nat} {ws : List Int} {H : List AO} (hid : H[id]? = some (.arr 1 (ws.map U))) (i : Int) : aIdxAddr Tryz.prog 30 (.sl id 0 len cap) i H = some (0 ≤ i ∧ i < (len : Int), .eptr id (0 + i.toNat) 0) :=
  aIdx_sl un30 sz37 hid i
theorem drop_cons {α : Type} {l : List α} {i : Nat} (d : α) (h : i < l.length) : l.drop i = l.getD i d :: l.drop (i + 1) := by
  rw [List.drop_eq_getElem_cons h]; simp [List.getD, h]
theorem ok42 : codeOk 46 (Tryz.f42.body.getD .skip) = true := by kernel_rfl
theorem ro42 : resOk 46 Tryz.f42.results = true := by kernel_rfl
theorem dr42 : todoDr [] [.code (Tryz.f42.body.getD .skip)] = true := by kernel_rfl
set_option maxHeartbeats 4000000 in
set_option maxRecDepth 400000 in
theorem of_set_pur (n : Int) (l : List Int) (hp : (1 ≤ n ∧ n ≤ 12288) ∧ (∀ k ∈ l, 0 ≤ k ∧ k < n) ∧ l.length ≤ 65536) : Pur Tryz.prog GG 42 [I n, frS (l.map IA)] (.tup [.isl ((ofL n l).map U), I 0]) := by
  obtain ⟨hn, hl, hlen⟩ := hp
  have hw : wordsV n = (n + 63) / 64 := by rw [wordsV, if_pos hn]
  obtain ⟨q, hq⟩ : ∃ q, (wordsV n).toNat = q + 1 := ⟨(wordsV n).toNat - 1, by omega⟩
  refine Pur.of_alone ggp (by first | rfl | (simp [AV.purL, AV.pur]; done) | (simp [AV.purL, AV.pur, frS_pur (purL_map IA _ (fun _ => rfl)), purL_map U _ (fun _ => rfl)]; done) | (simp [AV.purL, AV.pur, *]; done)) (AC.of_body (c := (Tryz.f42.body.getD .skip)) Tryz.func42 rfl (by decide) ok42 ro42 (by exact (by decide : 2 ≤ 46)) ?_)
  refine walk hmix T20_ok [] 3000 0 dr42 ?_
  delta Tryz.f42
  simp only [Option.getD_some]
  simp (maxSteps := 2000000) only [T20, T19, T18, T17, T16, T13, T12, T11, T10, T9, T8, T7, T6, T5, T4, T3, T2, T1, T0, resA, resL, resVar, Option.some.injEq, kw0, List.size_toArray, List.length_cons, List.length_nil, Nat.zero_add, Nat.reduceAdd, List.range_succ, List.range_zero, List.nil_append, List.cons_append, List.getElem?_toArray, List.getElem?_cons_zero, Go.Ab.put, ↓opK_some, ↓guK_none, kw1, roOf, aop, ev, ofV, ↓roK_ok, List.getElem?_cons_succ, upd, reduceCtorEq, ↓reduceIte, argTs, List.getD_cons_zero, tcall, Tab.ext, Nat.reduceEqDiff, g15, List.map_cons, List.map_nil, List.append_nil, aBin, aBinI, Option.map_some, ↓gdK_dec, or_true, true_and, List.getD_cons_succ, aLenI, ty1, aInt, Int.cast_ofNat_Int, Int.reducePow, slv, hq, AV.cells.eq_2]
  refine ⟨fun h => absurd h (by omega), fun _ => ⟨fun h => absurd h (by omega), fun _ => ⟨⟨by omega, by omega, by omega⟩, ?_⟩⟩⟩
  refine FW.loopInv (fun m ts H => ∃ i ws, i + (m : Int) = l.length ∧ 0 ≤ i ∧ (l.drop i.toNat).foldl setW ws = ofL n l ∧ ws.length = q + 1 ∧ H = [.arr 1 (ws.map U)] ∧ ts 0 = I n ∧ ts 7 = .sl 0 0 (q + 1) (q + 1) ∧ ts 21 = frS (l.map IA) ∧ ts 22 = I l.length ∧ ts 23 = I i) l.length
    ⟨0, List.replicate (q + 1) 0, by omega, by omega, by rw [← hq]; rfl, by simp, by simp, rfl, rfl, rfl, rfl, rfl⟩ ?_
  rintro m ih ts H ⟨i, ws, hi, hi0, hws, hwl, rfl, t0, t7, t21, t22, t23⟩
  refine FW.inLoop ?_
  have hx := fun h => aIdxI (l := l) i [.arr 1 (ws.map U)] h
  by_cases hlt : i < l.length
  · have hil : i.toNat < l.length := by omega
    have hx' := hx (by omega)
    rw [getD_map IA l 0 hil] at hx'
    have hk := hl _ (List.getElem_mem hil)
    rw [show l[i.toNat] = l.getD i.toNat 0 by simp [List.getD, hil]] at hk
    have hdr := drop_cons 0 hil
    generalize l.getD i.toNat 0 = k at hx' hk hdr
    have hd1 : decide (i < (l.length : Int)) = true := by simp [hlt]
    have hk1 : decide (k < 0) = false := by simp; omega
    have hk2 : decide (n ≤ k) = false := by simp; omega
    have hkw := wrapL (n := k.tdiv 64) (by have := Int.tdiv_eq_ediv_of_nonneg (b := 64) hk.1; omega) (by have := Int.tdiv_eq_ediv_of_nonneg (b := 64) hk.1; omega)
    have hkq : (k.tdiv 64).toNat < ws.length := by have := Int.tdiv_eq_ediv_of_nonneg (b := 64) hk.1; omega
    have hkq' : (k.tdiv 64).toNat < (ws.map U).length := by rw [List.length_map]; exact hkq
    have hxs := fun j => aIdxS (id := 0) (len := q + 1) (cap := q + 1) (ws := ws) (H := [.arr 1 (ws.map U)]) rfl j
    have hgd := getD_map U ws 0 hkq
    refine walk hmix T20_ok [] 3000 0 (by kernel_rfl) ?_
    simp (maxSteps := 2000000) only [T20, T19, T18, T17, T16, T13, T12, T11, T10, T9, T8, T7, T6, T5, T4, T3, T2, T1, T0, kw0, List.size_toArray, List.length_cons, List.length_nil, Nat.zero_add, List.range_succ, List.range_zero, List.nil_append, List.getElem?_toArray, List.getElem?_cons_zero, Go.Ab.put, ↓opK_some, ↓guK_none, kw1, roOf, aop, aBin, ev, t23, t22, aBinI, ↓reduceIte, hd1, Option.map_some, ↓roK_ok, upd, ↓gdK_true, Nat.reduceAdd, List.cons_append, aInt, Nat.reduceEqDiff, t21, hx', AV.cells.eq_2, and_true, List.getElem?_cons_succ, aload, ty0, rdCells, Nat.le_refl, List.drop_zero, List.take_succ_cons, List.take_nil, ofV, hk1, ↓guK_some, Option.bind_some, ↓tmK_some, ↓gsK_false, beq_self_eq_true, reduceCtorEq, t0, hk2, pickA, cond_false, ↓gdK_false, List.contains_nil, t7, ne_eq, Int.reduceEq, not_false_eq_true, hkw, ty1, hkq', and_self, hgd, astore, AV.isEl.eq_2, wrCells, reEl, splice, List.take_zero, List.drop_succ_cons, List.drop_nil, List.append_nil, List.getD_cons_zero, List.set_cons_zero, symR_nil, true_and]
    have hkm := Int.tmod_nonneg 64 hk.1
    have hkd := Int.tdiv_nonneg (b := 64) hk.1 (by decide)
    have hie := wrapL (n := i + 1) (by omega) (by omega)
    have hset : (ws.map U).set (k.tdiv 64).toNat (.c (.int .u64 (orW (ws.getD (k.tdiv 64).toNat 0) k))) = (setW ws k).map U := by rw [setW, List.map_set]
    rw [hie]
    repeat (refine ⟨by omega, ?_⟩)
    exact ih (m - 1) (by omega) _ _ ⟨i + 1, setW ws k, by omega, by omega, by rw [show (i + 1).toNat = i.toNat + 1 by omega, ← hws, hdr, List.foldl_cons], by rw [setW_length, hwl], congrArg (fun q => [AO.arr 1 q]) hset, t0, t7, t21, t22, rfl⟩
  · have hd1 : decide (i < (l.length : Int)) = false := by simp; omega
    refine walk hmix T20_ok [] 3000 0 (by kernel_rfl) ?_
    simp (maxSteps := 2000000) only [T20, T19, T18, T17, T16, T13, T12, T11, T10, T9, T8, T7, T6, T5, T4, T3, T2, T1, T0, kw0, List.size_toArray, List.length_cons, List.length_nil, Nat.zero_add, List.range_succ, List.range_zero, List.nil_append, List.getElem?_toArray, List.getElem?_cons_zero, Go.Ab.put, ↓opK_some, ↓guK_none, kw1, roOf, aop, aBin, ev, t23, t22, aBinI, ↓reduceIte, hd1, Option.map_some, ↓roK_ok, upd, ↓gdK_false, exitTo, beq_self_eq_true, reduceCtorEq, or_false, Nat.reduceEqDiff, ↓exK_some, Nat.reduceAdd, List.cons_append, t7, List.getElem?_cons_succ, ofV, or_true, true_and]
    rw [List.drop_eq_nil_of_le (by omega)] at hws
    have hws' : ws = ofL n l := hws
    subst hws'
    have hown : Own [.arr 1 ((ofL n l).map U)] (.sl 0 0 (q + 1) (q + 1)) ((ofL n l).map U) := by
      have := Own.row (H := [.arr 1 ((ofL n l).map U)]) (id := 0) rfl (by rw [List.length_map, hwl]; omega)
      rwa [List.length_map, hwl] at this
    obtain ⟨m', hm'⟩ := hown.done2 (v := I 0) (purL_map U _ (fun _ => rfl)) rfl
    exact ⟨_, rfl, m', by rw [hm', frS_ne (by rw [List.length_map, hwl]; omega)]⟩
end Go.Ab.Pd

set_option linter.unusedSimpArgs false
set_option linter.unusedVariables false
namespace Go.Ab.Pd
open Go.Proofs
theorem set_concat {l : List AO} {a b : AO} : (l ++ [a]).set l.length b = l ++ [b] := by
  rw [List.set_append_right _ _ (Nat.le_refl _)]; simp
theorem get_concat {l : List AO} {a : AO} : (l ++ [a])[l.length]? = some a := by simp
theorem okP_tmod {a b c x y z i j k : Int} (hd : okD a b c) (h1 : 0 ≤ x + i) (h2 : 0 ≤ y + j) (h3 : 0 ≤ z + k) : okP a b c ((x + i).tmod a) ((y + j).tmod b) ((z + k).tmod c) := by
  unfold okD at hd
  rw [Int.tmod_eq_emod_of_nonneg h1, Int.tmod_eq_emod_of_nonneg h2, Int.tmod_eq_emod_of_nonneg h3]
  exact ⟨⟨Int.emod_nonneg _ (by omega), Int.emod_lt_of_pos _ (by omega)⟩, ⟨Int.emod_nonneg _ (by omega), Int.emod_lt_of_pos _ (by omega)⟩, ⟨Int.emod_nonneg _ (by omega), Int.emod_lt_of_pos _ (by omega)⟩⟩
theorem nodes_mem {a b c x y z p q r m : Int} (hd : okD a b c) (hb : okB a b c x y z p q r) (h : m ∈ nodesL a b c x y z p q r) : inM a b c m := by
  unfold okB ok1 at hb
  obtain ⟨k, hk, _, h⟩ := mem_upto h
  obtain ⟨j, hj, _, h⟩ := mem_upto h
  obtain ⟨i, hi, _, h⟩ := mem_upto h
  rw [List.mem_singleton] at h
  subst h
  exact ⟨hd, (at_range hd (okP_tmod hd (by omega) (by omega) (by omega))).2⟩
def alongL (a b c x y z k p q r s : Int) (t : Bool) : List Int := (srt (nodesL a b c x y z p q r)).flatMap fun m => runLs a b c k m s t
def axisOf (p q r : Int) (s t u : Bool) (k p' q' r' n : Int) (e : Bool) : Prop := (k = 0 ∧ p' = 1 ∧ q' = q ∧ r' = r ∧ n = p ∧ e = s) ∨ (k = 1 ∧ p' = p ∧ q' = 1 ∧ r' = r ∧ n = q ∧ e = t) ∨ (k = 2 ∧ p' = p ∧ q' = q ∧ r' = 1 ∧ n = r ∧ e = u)
theorem runLs_length {a b c k m s : Int} {t : Bool} (hd : okD a b c) (h1 : s ≤ 16) : (runLs a b c k m s t).length ≤ 16 := by
  unfold okD at hd
  unfold runLs
  split
  · simp
  · rw [srt_length, runL, upto_length _ 1 _ _ (fun _ _ _ => rfl), Nat.mul_one]
    unfold runN dimV
    split <;> (try split) <;> (try split) <;> omega
theorem flatMap_le {f : Int → List Int} {n : Nat} (h : ∀ m, (f m).length ≤ n) : ∀ l : List Int, (l.flatMap f).length ≤ l.length * n
  | [] => by simp
  | x :: l => by
    have h1 := h x
    have h2 := flatMap_le h l
    rw [List.flatMap_cons, List.length_append, List.length_cons, Nat.succ_mul]; omega
theorem alongL_length {a b c x y z p q r s t u k p' q' r' n e} (hd : okD a b c) (hb : okB a b c x y z p q r) (hx : axisOf p q r s t u k p' q' r' n e) : (alongL a b c x y z k p' q' r' n e).length ≤ 4096 := by
  have h1 := flatMap_le (f := fun m => runLs a b c k m n e) (n := 16) (fun m => runLs_length hd (by unfold okD at hd; unfold okB ok1 at hb; unfold axisOf at hx; omega)) (srt (nodesL a b c x y z p' q' r'))
  rw [srt_length, nodesL_length] at h1
  unfold okD at hd; unfold okB ok1 at hb
  have h2 : r'.toNat * (q'.toNat * p'.toNat) ≤ 256 := by
    rcases hx with ⟨_, rfl, rfl, rfl, _⟩ | ⟨_, rfl, rfl, rfl, _⟩ | ⟨_, rfl, rfl, rfl, _⟩
    · calc r'.toNat * (q'.toNat * (1 : Int).toNat) ≤ 16 * (16 * 1) := Nat.mul_le_mul (by omega) (Nat.mul_le_mul (by omega) (by decide))
        _ = 256 := rfl
    · calc r'.toNat * ((1 : Int).toNat * p'.toNat) ≤ 16 * (1 * 16) := Nat.mul_le_mul (by omega) (Nat.mul_le_mul (by decide) (by omega))
        _ = 256 := rfl
    · calc (1 : Int).toNat * (q'.toNat * p'.toNat) ≤ 1 * (16 * 16) := Nat.mul_le_mul (by decide) (Nat.mul_le_mul (by omega) (by omega))
        _ = 256 := rfl
  unfold alongL
  omega
theorem alongL_mem {a b c x y z p q r s t u k p' q' r' n e l} (hd : okD a b c) (hb : okB a b c x y z p q r) (hx : axisOf p q r s t u k p' q' r' n e) (h : l ∈ alongL a b c x y z k p' q' r' n e) : 0 ≤ l ∧ l < 3 * (a * b * c) := by
  unfold alongL at h
  obtain ⟨m, hm, hl⟩ := List.mem_flatMap.1 h
  have hb' : okB a b c x y z p' q' r' := by unfold okB ok1 at *; unfold axisOf at hx; omega
  have hin := nodes_mem hd hb' (srt_mem.1 hm)
  unfold runLs at hl
  split at hl
  · simp at hl
  · rename_i hn1
    have := srt_mem.1 hl
    obtain ⟨i, _, _, hi⟩ := mem_upto this
    rw [List.mem_singleton] at hi
    subst hi
    exact (run_ok (by unfold axisOf at hx; omega) hin (by unfold okB ok1 at hb; unfold axisOf at hx; unfold dimV; split <;> (try split) <;> omega)).2
theorem ok62 : codeOk 49 (Tryz.f62.body.getD .skip) = true := by kernel_rfl
theorem ro62 : resOk 49 Tryz.f62.results = true := by kernel_rfl
theorem dr62 : todoDr [] [.code (Tryz.f62.body.getD .skip)] = true := by kernel_rfl
set_option maxHeartbeats 8000000 in
set_option maxRecDepth 400000 in
theorem along_ac {a b c x y z p q r : Int} {s t u : Bool} {k p' q' r' n : Int} {e : Bool} (hd : okD a b c) (hb : okB a b c x y z p q r) (hx : axisOf p q r s t u k p' q' r' n e) {H : List AO} {sl : AV} {es : List Int}
    (h0 : H[0]? = some (.cells [I a, I b, I c])) (h1 : H[1]? = some (.cells [I x, I y, I z, I p, I q, I r, B s, B t, B u])) (h2 : H[2]? = some (.cells [sl])) (hown : Own H sl (es.map IA)) (hs0 : ownId sl ≠ some 0) (hs1 : ownId sl ≠ some 1) (hs2 : ownId sl ≠ some 2) (hlen : es.length ≤ 8192)
    {K : AV → List AO → Prop} (hK : ∀ H' sl', H'[0]? = some (.cells [I a, I b, I c]) → H'[1]? = some (.cells [I x, I y, I z, I p, I q, I r, B s, B t, B u]) → H'[2]? = some (.cells [sl']) → Own H' sl' ((es ++ alongL a b c x y z k p' q' r' n e).map IA) →
      ownId sl' ≠ some 0 → ownId sl' ≠ some 1 → ownId sl' ≠ some 2 → K (.tup []) H') :
    AC Tryz.prog GG 62 [I k, .ptr 1 0, .ptr 0 0, .ptr 2 0] H K := by
  have hal := alongL_length hd hb hx
  have hL : ∀ m, m ∈ srt (nodesL a b c x y z p' q' r') → inM a b c m := fun m hm => nodes_mem hd (by unfold okB ok1 at *; unfold axisOf at hx; omega) (srt_mem.1 hm)
  have hok : okB a b c x y z p' q' r' := by unfold okB ok1 at *; unfold axisOf at hx; omega
  have hrl : ∀ m, (runLs a b c k m n e).length ≤ 16 := fun m => runLs_length hd (by unfold okD at hd; unfold okB ok1 at hb; unfold axisOf at hx; omega)
  have hkn : (0 ≤ k ∧ k ≤ 2) ∧ 1 ≤ n ∧ n ≤ dimV a b c k := by unfold okB ok1 at hb; unfold axisOf at hx; unfold dimV; split <;> (try split) <;> omega
  have hLlen : (srt (nodesL a b c x y z p' q' r')).length ≤ 16 * (16 * 16) := by
    rw [srt_length, nodesL_length]
    unfold okD at hd; unfold okB ok1 at hok
    exact Nat.mul_le_mul (by omega) (Nat.mul_le_mul (by omega) (by omega))
  unfold alongL at hK hal
  generalize hLs : srt (nodesL a b c x y z p' q' r') = Ls at hK hal hL hLlen
  have q0 : ∀ l, (H ++ l)[0]? = some (.cells [I a, I b, I c]) := fun l => by rw [List.getElem?_append_left (lt_of_get h0)]; exact h0
  have q1 : ∀ l, (H ++ l)[1]? = some (.cells [I x, I y, I z, I p, I q, I r, B s, B t, B u]) := fun l => by rw [List.getElem?_append_left (lt_of_get h1)]; exact h1
  have q2 : ∀ l, (H ++ l)[2]? = some (.cells [sl]) := fun l => by rw [List.getElem?_append_left (lt_of_get h2)]; exact h2
  have hlenL : aLen Tryz.prog 64 (.isl (Ls.map IA)) = some (Ls.length : Int) := by rw [aLen_isl un64, List.length_map]
  have hxL : ∀ (i : Int) (H : List AO), aIdxAddr Tryz.prog 64 (.isl (Ls.map IA)) i H = some ((0 ≤ i ∧ i < (Ls.length : Int)) ∧ ((Ls.map IA).getD i.toNat .un).cells.length = 1, .iptr ((Ls.map IA).getD i.toNat .un).cells 0) := fun i H => by
    rw [aIdx_isl un64 sz3, List.length_map]
  have hx0 := hx
  obtain ⟨kv, hkv⟩ : ∃ kv, kv = I k := ⟨_, rfl⟩
  generalize hf : (fun m => runLs a b c k m n e) = f at hK hal
  have hfm : ∀ m, runLs a b c k m n e = f m := fun m => by rw [← hf]
  have hfl : ∀ m, (f m).length ≤ 16 := fun m => by rw [← hf]; exact hrl m
  clear hf hrl
  rcases hx with ⟨rfl, rfl, rfl, rfl, rfl, rfl⟩ | ⟨rfl, rfl, rfl, rfl, rfl, rfl⟩ | ⟨rfl, rfl, rfl, rfl, rfl, rfl⟩
  all_goals
    refine AC.of_body (c := (Tryz.f62.body.getD .skip)) Tryz.func62 rfl (by decide) ok62 ro62 (by exact (by decide : 4 ≤ 49)) ?_
    refine walk hmix T20_ok [] 3000 0 dr62 ?_
    delta Tryz.f62
    simp only [Option.getD_some]
    simp (maxSteps := 2000000) only [T20, T19, T18, T17, T16, T13, T12, T11, T10, T9, T8, T7, T6, T5, T4, T3, T2, T1, T0, resA, resL, Option.some.injEq, kw0, List.size_toArray, List.length_cons, List.length_nil, Nat.zero_add, Nat.reduceAdd, List.range_succ, List.range_zero, List.nil_append, List.cons_append, List.getElem?_toArray, List.getElem?_cons_zero, Go.Ab.put, ↓opK_some, ↓guK_none, kw1, roOf, aop, ty1, ptrAdd, ev, argTs, List.getD_cons_succ, List.getD_cons_zero, Nat.add_zero, Option.map_some, ↓roK_ok, List.getElem?_cons_succ, aload, ty0, rdCells, upd, ↓reduceIte, h1, Nat.reduceLeDiff, List.drop_zero, List.take_succ_cons, List.take_zero, astore, Nat.reduceEqDiff, AV.isEl.eq_2, AV.cells.eq_1, and_self, wrCells, get_concat, Nat.le_refl, splice, List.drop_succ_cons, List.drop_nil, List.append_nil, set_concat, reduceCtorEq, aInt, Int.reduceLE, Int.reduceLT, Int.toNat_zero, Nat.reduceMul, ofV, AV.cells.eq_2, q0, List.take_nil, tcall, Tab.ext, g61, List.map_cons, List.map_nil, hLs, ty2, true_and, Int.toNat_one, Int.reduceToNat]
    refine ⟨⟨hd, hok⟩, ?_⟩
    refine FW.loopInv (fun l ts H' => ∃ i es' sl', i + (l : Int) = Ls.length ∧ 0 ≤ i ∧ es' ++ (Ls.drop i.toNat).flatMap f = es ++ Ls.flatMap f ∧ H'[0]? = H[0]? ∧ H'[1]? = H[1]? ∧ H'[2]? = some (.cells [sl']) ∧ Own H' sl' (es'.map IA) ∧ ownId sl' ≠ some 0 ∧ ownId sl' ≠ some 1 ∧ ownId sl' ≠ some 2 ∧
      ts 0 = kv ∧ ts 1 = .ptr 1 0 ∧ ts 2 = .ptr 0 0 ∧ ts 3 = .ptr 2 0 ∧ ts 23 = .isl (Ls.map IA) ∧ ts 24 = I (Ls.map IA).length ∧ ts 25 = I i) Ls.length
      ⟨0, es, sl, by omega, by omega, rfl, (q0 _).trans h0.symm, (q1 _).trans h1.symm, q2 _, hown.append _, hs0, hs1, hs2, hkv.symm, rfl, rfl, rfl, rfl, rfl, rfl⟩ ?_
    rintro l ih ts H' ⟨i, es', sl', hi, hi0, hes, e0, e1, g2, hown', w0, w1, w2, t0, t1, t2, t3, t23, t24, t25⟩
    have g0 := e0.trans h0
    have g1 := e1.trans h1
    rw [hkv] at t0
    rw [List.length_map] at t24
    refine FW.inLoop ?_
    by_cases hlt : i < Ls.length
    · have hil : i.toNat < Ls.length := by omega
      have hd1 : decide (i < (Ls.length : Int)) = true := by simp [hlt]
      have hgd := getD_map IA Ls 0 hil
      have hmm := hL _ (List.getElem_mem hil)
      rw [show Ls[i.toNat] = Ls.getD i.toNat 0 by simp [List.getD, hil]] at hmm
      have hdr := drop_cons 0 hil
      generalize Ls.getD i.toNat 0 = mm at hgd hmm hdr
      rw [hdr, List.flatMap_cons, ← List.append_assoc] at hes
      have hel := congrArg List.length hes
      simp only [List.length_append] at hel
      obtain ⟨C, happ, hC⟩ := aAppF (P := Tryz.prog) un64 un64 ze3 rfl by3 hown' (l := (f mm).map IA) (by intro x hx; obtain ⟨_, _, rfl⟩ := List.mem_map.1 hx; rfl)
      have hown3 := apSs_own (l := (f mm).map IA) hown'
      have g0' := (apHs_get (es := es'.map IA) (l := (f mm).map IA) (lt_of_get g0) w0).trans g0
      have g1' := (apHs_get (es := es'.map IA) (l := (f mm).map IA) (lt_of_get g1) w1).trans g1
      have g2' := (apHs_get (es := es'.map IA) (l := (f mm).map IA) (lt_of_get g2) w2).trans g2
      have w0' := ownId_apSs (n := (es'.map IA).length) (l := (f mm).map IA) (lt_of_get g0) w0
      have w1' := ownId_apSs (n := (es'.map IA).length) (l := (f mm).map IA) (lt_of_get g1) w1
      have w2' := ownId_apSs (n := (es'.map IA).length) (l := (f mm).map IA) (lt_of_get g2) w2
      rw [← List.map_append] at hown3
      generalize apSs H' sl' (es'.map IA).length ((f mm).map IA) = sl3 at happ hown3 w0' w1' w2'
      generalize apHs H' sl' (es'.map IA) ((f mm).map IA) = H3 at happ hown3 g0' g1' g2'
      obtain ⟨c1, c2, c3⟩ := hown3.cell
      refine walk hmix T20_ok [] 3000 0 (by kernel_rfl) ?_
      simp (maxSteps := 2000000) only [T20, T19, T18, T17, T16, T13, T12, T11, T10, T9, T8, T7, T6, T5, T4, T3, T2, T1, T0, kw0, List.size_toArray, List.length_cons, List.length_nil, Nat.zero_add, List.range_succ, List.range_zero, List.nil_append, List.getElem?_toArray, List.getElem?_cons_zero, Go.Ab.put, ↓opK_some, ↓guK_none, kw1, roOf, aop, aBin, ev, t25, t24, aBinI, ↓reduceIte, hd1, Option.map_some, ↓roK_ok, upd, ↓gdK_true, Nat.reduceAdd, List.cons_append, aInt, Nat.reduceEqDiff, t23, ty2, List.length_map, hgd, AV.cells.eq_2, and_true, List.getElem?_cons_succ, aload, ty0, rdCells, Nat.le_refl, List.drop_zero, List.take_succ_cons, List.take_nil, List.contains_nil, t2, g0, reduceCtorEq, t0, ty1, ptrAdd, t1, Nat.add_zero, Int.reduceLE, Int.reduceLT, and_self, Int.toNat_zero, Nat.reduceMul, g1, Nat.reduceLeDiff, List.drop_succ_cons, List.take_zero, tcall, Tab.ext, g63, List.map_cons, List.map_nil, List.append_nil, true_and, hfm, symR_nil, t3, g2, aop2, happ, astore, c2, c3, wrCells, g2', splice, List.drop_nil, ofV, Int.toNat_one, Int.reduceToNat]
      have hb3 : (es'.map IA).length + ((f mm).map IA).length ≤ 2 ^ 20 := by
        rw [List.length_map, List.length_map]; omega
      refine ⟨⟨hi0, hlt⟩, ⟨hmm, hkn.2⟩, hC (by omega) (by omega), ?_⟩
      rw [wrapL (n := i + 1) (by omega) (by omega)]
      refine ih (l - 1) (by omega) _ _ ⟨i + 1, es' ++ f mm, sl3, by omega, by omega, by rw [show (i + 1).toNat = i.toNat + 1 by omega]; exact hes, (List.getElem?_set_ne (by decide)).trans (g0'.trans h0.symm), (List.getElem?_set_ne (by decide)).trans (g1'.trans h1.symm),
        List.getElem?_set_self (lt_of_get g2'), hown3.keep fun j hj => List.getElem?_set_ne (fun e' => w2' (by rw [hj, e'])), w0', w1', w2', t0.trans hkv.symm, t1, t2, t3, t23, by rw [List.length_map]; exact t24, rfl⟩
    · have hd1 : decide (i < (Ls.length : Int)) = false := by simp; omega
      refine walk hmix T20_ok [] 3000 0 (by kernel_rfl) ?_
      simp (maxSteps := 2000000) only [T20, T19, T18, T17, T16, T13, T12, T11, T10, T9, T8, T7, T6, T5, T4, T3, T2, T1, T0, kw0, List.size_toArray, List.length_cons, List.length_nil, Nat.zero_add, List.range_succ, List.range_zero, List.nil_append, List.getElem?_toArray, List.getElem?_cons_zero, Go.Ab.put, ↓opK_some, ↓guK_none, kw1, roOf, aop, aBin, ev, t25, t24, aBinI, ↓reduceIte, hd1, Option.map_some, ↓roK_ok, upd, ↓gdK_false, exitTo, beq_self_eq_true, reduceCtorEq, or_false, ↓exK_some, sy_nil, true_and]
      rw [List.drop_eq_nil_of_le (by omega), List.flatMap_nil, List.append_nil] at hes
      subst hes
      exact ⟨_, rfl, hK _ _ g0 g1 g2 hown' w0 w1 w2⟩
def linksL (a b c x y z p q r : Int) (s t u : Bool) : List Int := alongL a b c x y z 0 1 q r p s ++ alongL a b c x y z 1 p 1 r q t ++ alongL a b c x y z 2 p q 1 r u
theorem ok41 : codeOk 23 (Tryz.f41.body.getD .skip) = true := by kernel_rfl
theorem ro41 : resOk 23 Tryz.f41.results = true := by kernel_rfl
theorem dr41 : todoDr [] [.code (Tryz.f41.body.getD .skip)] = true := by kernel_rfl
set_option maxHeartbeats 4000000 in
set_option maxRecDepth 400000 in
theorem taken_pur (a b c x y z p q r : Int) (s t u : Bool) (hp : okD a b c ∧ okB a b c x y z p q r) : Pur Tryz.prog GG 41 [.agg [I a, I b, I c], .agg [I x, I y, I z, I p, I q, I r, B s, B t, B u]] (.tup [.isl ((srt (nodesL a b c x y z p q r)).map IA), frS ((linksL a b c x y z p q r s t u).map IA)]) := by
  obtain ⟨hd, hb⟩ := hp
  have x0 : axisOf p q r s t u 0 1 q r p s := .inl ⟨rfl, rfl, rfl, rfl, rfl, rfl⟩
  have x1 : axisOf p q r s t u 1 p 1 r q t := .inr (.inl ⟨rfl, rfl, rfl, rfl, rfl, rfl⟩)
  have x2 : axisOf p q r s t u 2 p q 1 r u := .inr (.inr ⟨rfl, rfl, rfl, rfl, rfl, rfl⟩)
  have l0 := alongL_length hd hb x0
  have l1 := alongL_length hd hb x1
  refine Pur.of_alone ggp (by first | rfl | (simp [AV.purL, AV.pur]; done) | (simp [AV.purL, AV.pur, frS_pur (purL_map IA _ (fun _ => rfl)), purL_map U _ (fun _ => rfl)]; done) | (simp [AV.purL, AV.pur, *]; done)) (AC.of_body (c := (Tryz.f41.body.getD .skip)) Tryz.func41 rfl (by decide) ok41 ro41 (by exact (by decide : 2 ≤ 23)) ?_)
  refine walk hmix T20_ok [] 3000 4 dr41 ?_
  delta Tryz.f41
  simp only [Option.getD_some]
  simp (maxSteps := 2000000) only [T20, T19, T18, T17, T16, T13, T12, T11, T10, T9, T8, T7, T6, T5, T4, T3, T2, T1, T0, resA, resL, resVar, aload, ty2, rdCells, kw0, List.size_toArray, List.length_cons, List.length_nil, Nat.zero_add, Nat.reduceAdd, List.range_succ, List.range_zero, List.nil_append, List.cons_append, List.getElem?_toArray, List.getElem?_cons_zero, Go.Ab.put, ↓opK_some, ↓guK_none, kw1, roOf, aop, ev, argTs, List.getD_cons_zero, AV.isEl.eq_2, ↓reduceIte, AV.cells.eq_1, ↓roK_ok, List.getElem?_cons_succ, upd, Nat.reduceEqDiff, List.getD_cons_succ, ofV, ty0, Nat.le_refl, List.drop_zero, List.take_succ_cons, List.take_nil, Option.map_some, ty1, ptrAdd, Nat.add_zero, Nat.reduceLeDiff, List.take_zero, tcall, Tab.ext, g61, List.map_cons, List.map_nil, List.append_nil, aBin, aBinI, Int.reduceLT, decide_true, ↓gdK_true, Tab.nil, ↓roK_call, true_and]
  refine ⟨⟨hd, hb⟩, ?_⟩
  refine along_ac (es := []) hd hb x0 rfl rfl rfl .nil (by simp [ownId]) (by simp [ownId]) (by simp [ownId]) (by simp) ?_
  intro H1 s1 g0 g1 g2 o1 w0 w1 w2
  refine walk hmix T20_ok [] 3000 1 (by kernel_rfl) ?_
  simp (maxSteps := 2000000) only [T20, T19, T18, T17, T16, T13, T12, T11, T10, T9, T8, T7, T6, T5, T4, T3, T2, T1, T0, kw0, List.size_toArray, List.length_cons, List.length_nil, Nat.zero_add, Nat.reduceAdd, List.range_succ, List.range_zero, List.nil_append, List.cons_append, List.getElem?_toArray, List.getElem?_cons_zero, Go.Ab.put, ↓opK_some, ↓guK_none, kw1, roOf, aop, aBin, ev, upd, Nat.reduceEqDiff, ↓reduceIte, ofV, aBinI, Int.zero_add, Int.reduceNeg, Int.reduceLE, Int.reduceLT, wrapL, Option.map_some, ↓roK_ok, List.getElem?_cons_succ, decide_true, ↓gdK_true, tcall, Tab.ext, Tab.nil, List.map_cons, List.map_nil, ↓roK_call, true_and]
  refine along_ac hd hb x1 g0 g1 g2 o1 w0 w1 w2 (by simp only [List.length_append, List.length_nil]; omega) ?_
  clear g0 g1 g2 o1 w0 w1 w2
  intro H2 s2 g0 g1 g2 o2 w0 w1 w2
  refine walk hmix T20_ok [] 3000 1 (by kernel_rfl) ?_
  simp (maxSteps := 2000000) only [T20, T19, T18, T17, T16, T13, T12, T11, T10, T9, T8, T7, T6, T5, T4, T3, T2, T1, T0, kw0, List.size_toArray, List.length_cons, List.length_nil, Nat.zero_add, Nat.reduceAdd, List.range_succ, List.range_zero, List.nil_append, List.cons_append, List.getElem?_toArray, List.getElem?_cons_zero, Go.Ab.put, ↓opK_some, ↓guK_none, kw1, roOf, aop, aBin, ev, upd, Nat.reduceEqDiff, ↓reduceIte, ofV, aBinI, Int.reduceAdd, Int.reduceNeg, Int.reduceLE, Int.reduceLT, wrapL, Option.map_some, ↓roK_ok, List.getElem?_cons_succ, decide_true, ↓gdK_true, tcall, Tab.ext, Tab.nil, List.map_cons, List.map_nil, ↓roK_call, true_and]
  refine along_ac hd hb x2 g0 g1 g2 o2 w0 w1 w2 (by simp only [List.length_append, List.length_nil]; omega) ?_
  clear g0 g1 g2 o2 w0 w1 w2
  intro H3 s3 g0 g1 g2 o3 w0 w1 w2
  refine walk hmix T20_ok [] 3000 1 (by kernel_rfl) ?_
  simp (maxSteps := 2000000) only [T20, T19, T18, T17, T16, T13, T12, T11, T10, T9, T8, T7, T6, T5, T4, T3, T2, T1, T0, kw0, List.size_toArray, List.length_cons, List.length_nil, Nat.zero_add, Nat.reduceAdd, List.range_succ, List.range_zero, List.nil_append, List.cons_append, List.getElem?_toArray, List.getElem?_cons_zero, Go.Ab.put, ↓opK_some, ↓guK_none, kw1, roOf, aop, aBin, ev, upd, Nat.reduceEqDiff, ↓reduceIte, ofV, aBinI, Int.reduceAdd, Int.reduceNeg, Int.reduceLE, Int.reduceLT, wrapL, Option.map_some, ↓roK_ok, List.getElem?_cons_succ, decide_false, ↓gdK_false, exitTo, beq_self_eq_true, reduceCtorEq, or_false, g2, Nat.le_refl, List.drop_zero, List.take_succ_cons, List.take_nil, Option.some.injEq, ↓exK_some, or_true, true_and]
  rw [List.nil_append] at o3
  exact ⟨_, rfl, o3.done1 (purL_map IA _ (fun _ => rfl)) (by simp [AV.pur, purL_map IA _ (fun _ => rfl)])⟩
def g41 : List AV → Option (Prop × AV)
  | [.agg [(.c (.int .i64 a)), (.c (.int .i64 b)), (.c (.int .i64 c))], .agg [(.c (.int .i64 x)), (.c (.int .i64 y)), (.c (.int .i64 z)), (.c (.int .i64 p)), (.c (.int .i64 q)), (.c (.int .i64 r)), (.c (.bool s)), (.c (.bool t)), (.c (.bool u))]] => some (okD a b c ∧ okB a b c x y z p q r, .tup [.isl ((srt (nodesL a b c x y z p q r)).map IA), frS ((linksL a b c x y z p q r s t u).map IA)])
  | _ => none
theorem g41_ok : ∀ args p, g41 args = some p → p.1 → Pur Tryz.prog GG 41 args p.2 := by
  intro args p hp hc
  unfold g41 at hp
  split at hp
  · cases hp
    exact taken_pur _ _ _ _ _ _ _ _ _ _ _ _ hc
  · cases hp
def T21 : Tab := Tab.ext T20 41 g41
theorem T21_ok : TOk Tryz.prog GG T21 := TOk.ext T20_ok g41_ok
theorem okPl_pchk {a b c x y z p q r : Int} {s t u : Bool} (h : okPl a b c x y z p q r s t u) : pchk a b c x y z p q r s t u = 0 := by
  rw [pchk, if_pos (ckB_ok h.1 h.2.1), if_pos h]
theorem links_mem {a b c x y z p q r : Int} {s t u : Bool} (hd : okD a b c) (hb : okB a b c x y z p q r) : ∀ k ∈ linksL a b c x y z p q r s t u, 0 ≤ k ∧ k < 3 * (a * b * c) := by
  intro k hk
  unfold linksL at hk
  rw [List.mem_append, List.mem_append] at hk
  rcases hk with (hk | hk) | hk
  · exact alongL_mem hd hb (s := s) (t := t) (u := u) (.inl ⟨rfl, rfl, rfl, rfl, rfl, rfl⟩) hk
  · exact alongL_mem hd hb (s := s) (t := t) (u := u) (.inr (.inl ⟨rfl, rfl, rfl, rfl, rfl, rfl⟩)) hk
  · exact alongL_mem hd hb (s := s) (t := t) (u := u) (.inr (.inr ⟨rfl, rfl, rfl, rfl, rfl, rfl⟩)) hk
theorem links_length {a b c x y z p q r : Int} {s t u : Bool} (hd : okD a b c) (hb : okB a b c x y z p q r) : (linksL a b c x y z p q r s t u).length ≤ 65536 := by
  have h0 := alongL_length hd hb (s := s) (t := t) (u := u) (.inl ⟨rfl, rfl, rfl, rfl, rfl, rfl⟩)
  have h1 := alongL_length hd hb (s := s) (t := t) (u := u) (.inr (.inl ⟨rfl, rfl, rfl, rfl, rfl, rfl⟩))
  have h2 := alongL_length hd hb (s := s) (t := t) (u := u) (.inr (.inr ⟨rfl, rfl, rfl, rfl, rfl, rfl⟩))
  unfold linksL
  rw [List.length_append, List.length_append]
  omega
def ownW (a b c x y z p q r : Int) : List Int := ofL (manyV a b c) (srt (nodesL a b c x y z p q r))
def linksW (a b c x y z p q r : Int) (s t u : Bool) : List Int := ofL (3 * manyV a b c) (linksL a b c x y z p q r s t u)
theorem ok29 : codeOk 40 (Tryz.f29.body.getD .skip) = true := by kernel_rfl
theorem ro29 : resOk 40 Tryz.f29.results = true := by kernel_rfl
theorem dr29 : todoDr [] [.code (Tryz.f29.body.getD .skip)] = true := by kernel_rfl
set_option maxHeartbeats 4000000 in
set_option maxRecDepth 400000 in
theorem sets_pur (a b c x y z p q r : Int) (s t u : Bool) (hp : okPl a b c x y z p q r s t u) : Pur Tryz.prog GG 29 [.agg [I a, I b, I c], .agg [I x, I y, I z, I p, I q, I r, B s, B t, B u]] (.tup [.isl ((ownW a b c x y z p q r).map U), .isl ((linksW a b c x y z p q r s t u).map U), I 0]) := by
  have hpc := okPl_pchk hp
  have hd := hp.1
  have hb := hp.2.1
  have hm := okD_mul hd
  have hmv : manyV a b c = a * b * c := by rw [manyV, if_pos hd]
  have hw3 := wrapL (n := 3 * manyV a b c) (by omega) (by omega)
  have hd' := hd
  unfold okD at hd'
  have h1 : 1 ≤ a * b * c := by
    have : 0 < a * b * c := Int.mul_pos (Int.mul_pos (by omega) (by omega)) (by omega)
    omega
  have hn0 : 0 < (srt (nodesL a b c x y z p q r)).length := by
    rw [srt_length, nodesL_length]
    unfold okB ok1 at hb
    exact Nat.mul_pos (by omega) (Nat.mul_pos (by omega) (by omega))
  have hn1 : (srt (nodesL a b c x y z p q r)).length ≤ 16 * (16 * 16) := by
    rw [srt_length, nodesL_length]
    unfold okB ok1 at hb
    exact Nat.mul_le_mul (by omega) (Nat.mul_le_mul (by omega) (by omega))
  have c1 := of_set_pur (manyV a b c) (srt (nodesL a b c x y z p q r)) ⟨by omega, fun k hk => by rw [hmv]; exact (nodes_mem hd hb (srt_mem.1 hk)).2, by omega⟩
  rw [frS_ne (by rw [List.length_map]; exact hn0)] at c1
  have c2 := of_set_pur (3 * manyV a b c) (linksL a b c x y z p q r s t u) ⟨by omega, fun k hk => by rw [hmv]; exact links_mem hd hb k hk, links_length hd hb⟩
  refine Pur.of_alone ggp (by first | rfl | (simp [AV.purL, AV.pur]; done) | (simp [AV.purL, AV.pur, frS_pur (purL_map IA _ (fun _ => rfl)), purL_map U _ (fun _ => rfl)]; done) | (simp [AV.purL, AV.pur, *]; done)) (AC.of_body (c := (Tryz.f29.body.getD .skip)) Tryz.func29 rfl (by decide) ok29 ro29 (by exact (by decide : 2 ≤ 40)) ?_)
  refine walk hmix T21_ok [] 3000 0 dr29 ?_
  delta Tryz.f29
  simp only [Option.getD_some]
  simp (maxSteps := 2000000) only [T21, T20, T19, T18, T17, T16, T13, T12, T11, T10, T9, T8, T7, T6, T5, T4, T3, T2, T1, T0, resA, resL, resVar, Option.some.injEq, kw0, List.size_toArray, List.length_cons, List.length_nil, Nat.zero_add, Nat.reduceAdd, List.range_succ, List.range_zero, List.nil_append, List.cons_append, List.getElem?_toArray, List.getElem?_cons_zero, Go.Ab.put, ↓opK_some, ↓guK_none, kw1, roOf, aop, ev, argTs, List.getD_cons_zero, AV.isEl.eq_2, ↓reduceIte, AV.cells.eq_1, ↓roK_ok, List.getElem?_cons_succ, upd, Nat.reduceEqDiff, List.getD_cons_succ, ofV, aload, ty0, rdCells, Nat.le_refl, List.drop_zero, List.take_succ_cons, List.take_nil, Option.map_some, ty1, tcall, Tab.ext, g9, List.map_cons, List.map_nil, List.append_nil, hpc, aBin, aBinI, bne_eq_decide', ne_eq, not_true_eq_false, decide_false, ↓gdK_false, g7, g41, Tab.nil, ↓roK_call, true_and]
  refine ⟨⟨hd, hb⟩, ?_⟩
  refine AC.pur c1 ?_
  refine walk hmix T21_ok [] 3000 1 (by kernel_rfl) ?_
  simp (maxSteps := 2000000) only [T21, T20, T19, T18, T17, T16, T13, T12, T11, T10, T9, T8, T7, T6, T5, T4, T3, T2, T1, T0, kw0, List.getElem?_toArray, List.getElem?_cons_succ, List.getElem?_cons_zero, Go.Ab.put, ↓opK_some, ↓guK_none, kw1, roOf, aop, ev, upd, ↓reduceIte, ↓roK_ok, Option.map_some, Nat.reduceEqDiff, List.size_toArray, List.length_cons, List.length_nil, Nat.zero_add, Nat.reduceAdd, List.range_succ, List.range_zero, List.nil_append, List.cons_append, aBin, ofV, aBinI, hw3, tcall, Tab.ext, Tab.nil, List.map_cons, List.map_nil, ↓roK_call, true_and]
  refine AC.pur c2 ?_
  refine walk hmix T21_ok [] 3000 1 (by kernel_rfl) ?_
  simp (maxSteps := 2000000) only [T21, T20, T19, T18, T17, T16, T13, T12, T11, T10, T9, T8, T7, T6, T5, T4, T3, T2, T1, T0, kw0, List.getElem?_toArray, List.getElem?_cons_succ, List.getElem?_cons_zero, Go.Ab.put, ↓opK_some, ↓guK_none, kw1, roOf, aop, ev, upd, ↓reduceIte, ↓roK_ok, Option.map_some, Nat.reduceEqDiff, reduceCtorEq, or_true, true_and]
  exact ⟨_, rfl, done_pur (by simp [AV.pur, AV.purL, purL_map U _ (fun _ => rfl)]) rfl⟩
def g29 : List AV → Option (Prop × AV)
  | [.agg [(.c (.int .i64 a)), (.c (.int .i64 b)), (.c (.int .i64 c))], .agg [(.c (.int .i64 x)), (.c (.int .i64 y)), (.c (.int .i64 z)), (.c (.int .i64 p)), (.c (.int .i64 q)), (.c (.int .i64 r)), (.c (.bool s)), (.c (.bool t)), (.c (.bool u))]] => some (okPl a b c x y z p q r s t u, .tup [.isl ((ownW a b c x y z p q r).map U), .isl ((linksW a b c x y z p q r s t u).map U), I 0])
  | _ => none
theorem g29_ok : ∀ args p, g29 args = some p → p.1 → Pur Tryz.prog GG 29 args p.2 := by
  intro args p hp hc
  unfold g29 at hp
  split at hp
  · cases hp
    exact sets_pur _ _ _ _ _ _ _ _ _ _ _ _ hc
  · cases hp
def T22 : Tab := Tab.ext T21 29 g29
theorem T22_ok : TOk Tryz.prog GG T22 := TOk.ext T21_ok g29_ok
end Go.Ab.Pd

set_option linter.unusedSimpArgs false
set_option linter.unusedVariables false
namespace Go.Ab.Pd
open Go.Proofs
def IsSet (s : AV) : Prop := ∃ ws : List Int, (∀ w ∈ ws, inU w) ∧ (s = .isl (ws.map U) ∨ (s = .c (.slice none 0 0) ∧ ws = []))
theorem IsSet.pur {s : AV} (h : IsSet s) : s.pur = true := by
  obtain ⟨ws, _, rfl | ⟨rfl, _⟩⟩ := h
  · simp [AV.pur, purL_map U _ (fun _ => rfl)]
  · rfl
theorem IsSet.cell {s : AV} (h : IsSet s) : s.isCell = true ∧ s.isEl = true ∧ s.cells = [s] := by
  obtain ⟨ws, _, rfl | ⟨rfl, _⟩⟩ := h <;> exact ⟨rfl, rfl, rfl⟩
theorem IsSet.nil : IsSet (.c (.slice none 0 0)) := ⟨[], by simp, .inr ⟨rfl, rfl⟩⟩
theorem IsSet.isl {ws : List Int} (h : ∀ w ∈ ws, inU w) : IsSet (.isl (ws.map U)) := ⟨ws, h, .inl rfl⟩
set_option maxHeartbeats 4000000 in
set_option maxRecDepth 400000 in
theorem scheckN_pur (n : Int) : Pur Tryz.prog GG 8 [I n, .c (.slice none 0 0)] (I (schk n [])) := by
  have h0 : ¬0 = wordsV n := fun e => by unfold wordsV at e; split at e <;> omega
  have hd2 : decide (0 = wordsV n) = false := decide_eq_false h0
  by_cases hw : wordsV n < 0
  · have hd1 : decide (wordsV n < 0) = true := decide_eq_true hw
    refine Pur.of_alone ggp (by first | rfl | (simp [AV.purL, AV.pur]; done) | (simp [AV.purL, AV.pur, frS_pur (purL_map IA _ (fun _ => rfl)), purL_map U _ (fun _ => rfl)]; done) | (simp [AV.purL, AV.pur, *]; done)) (AC.of_body (c := (Tryz.f8.body.getD .skip)) Tryz.func8 rfl (by decide) ok8 ro8 (by exact (by decide : 2 ≤ 30)) ?_)
    refine walk hmix T16_ok [] 3000 0 dr8 ?_
    delta Tryz.f8
    simp only [Option.getD_some]
    simp (maxSteps := 2000000) only [T16, T13, T12, T11, T10, T9, T8, T7, T6, T5, T4, T3, T2, T1, T0, resA, resL, resVar, Option.some.injEq, kw0, List.size_toArray, List.length_cons, List.length_nil, Nat.zero_add, List.range_succ, List.range_zero, List.nil_append, List.getElem?_toArray, List.getElem?_cons_zero, Go.Ab.put, ↓opK_some, ↓guK_none, kw1, roOf, aop, ev, ofV, ↓roK_ok, Nat.reduceAdd, List.cons_append, upd, reduceCtorEq, ↓reduceIte, argTs, List.getD_cons_zero, List.getElem?_cons_succ, tcall, Tab.ext, Nat.reduceEqDiff, g15, List.map_cons, List.map_nil, List.append_nil, aBin, aBinI, hd1, Option.map_some, ↓gdK_true, or_true, true_and]
    exact ⟨_, rfl, done_pur rfl (by rw [schk, if_pos hw])⟩
  · have hd1 : decide (wordsV n < 0) = false := decide_eq_false hw
    refine Pur.of_alone ggp (by first | rfl | (simp [AV.purL, AV.pur]; done) | (simp [AV.purL, AV.pur, frS_pur (purL_map IA _ (fun _ => rfl)), purL_map U _ (fun _ => rfl)]; done) | (simp [AV.purL, AV.pur, *]; done)) (AC.of_body (c := (Tryz.f8.body.getD .skip)) Tryz.func8 rfl (by decide) ok8 ro8 (by exact (by decide : 2 ≤ 30)) ?_)
    refine walk hmix T16_ok [] 3000 0 dr8 ?_
    delta Tryz.f8
    simp only [Option.getD_some]
    simp (maxSteps := 2000000) only [T16, T13, T12, T11, T10, T9, T8, T7, T6, T5, T4, T3, T2, T1, T0, resA, resL, resVar, Option.some.injEq, kw0, List.size_toArray, List.length_cons, List.length_nil, Nat.zero_add, List.range_succ, List.range_zero, List.nil_append, List.getElem?_toArray, List.getElem?_cons_zero, Go.Ab.put, ↓opK_some, ↓guK_none, kw1, roOf, aop, ev, ofV, ↓roK_ok, Nat.reduceAdd, List.cons_append, upd, reduceCtorEq, ↓reduceIte, argTs, List.getD_cons_zero, List.getElem?_cons_succ, tcall, Tab.ext, Nat.reduceEqDiff, g15, List.map_cons, List.map_nil, List.append_nil, aBin, aBinI, hd1, Option.map_some, ↓gdK_false, List.getD_cons_succ, ty1, bne_eq_decide', ne_eq, decide_not, hd2, Bool.not_false, ↓gdK_true, or_true, true_and]
    exact ⟨_, rfl, done_pur rfl (by rw [schk, if_neg hw, if_neg (fun hh => h0 hh.1)])⟩
theorem check_ex {s : AV} (h : IsSet s) (n : Int) : ∃ e, Pur Tryz.prog GG 8 [I n, s] (I e) ∧ (e = 0 → (1 ≤ n ∧ n ≤ 12288) ∧ ∃ ws : List Int, (∀ w ∈ ws, inU w) ∧ s = .isl (ws.map U) ∧ (ws.length : Int) = (n + 63) / 64) := by
  obtain ⟨ws, hw, rfl | ⟨rfl, rfl⟩⟩ := h
  · refine ⟨_, scheck_pur n ws, fun e => ?_⟩
    unfold schk at e
    split at e
    · omega
    · rename_i h1
      split at e
      · rename_i h2
        have : 1 ≤ n ∧ n ≤ 12288 := by unfold wordsV at h1; split at h1 <;> omega
        refine ⟨this, ws, hw, rfl, ?_⟩
        rw [h2.1, wordsV, if_pos this]
      · omega
  · refine ⟨_, scheckN_pur n, fun e => ?_⟩
    unfold schk at e
    split at e
    · omega
    · rename_i h1
      split at e
      · rename_i h2
        have h3 := h2.1
        simp only [List.length_nil] at h3
        unfold wordsV at h1 h3
        split at h1 <;> simp_all <;> omega
      · omega
theorem ok64 : codeOk 21 (Tryz.f64.body.getD .skip) = true := by kernel_rfl
theorem ro64 : resOk 21 Tryz.f64.results = true := by kernel_rfl
theorem dr64 : todoDr [] [.code (Tryz.f64.body.getD .skip)] = true := by kernel_rfl
set_option maxHeartbeats 4000000 in
set_option maxRecDepth 400000 in
theorem checked_ac {n e1 e2 : Int} {s1 s2 : AV} (p1 : Pur Tryz.prog GG 8 [I n, s1] (I e1)) (p2 : Pur Tryz.prog GG 8 [I n, s2] (I e2)) (q1 : IsSet s1) (q2 : IsSet s2) {H : List AO} {id : Nat} (hid : H[id]? = some (.arr 1 [s1, s2]))
    {K : AV → List AO → Prop} (hK : K (I (if e1 = 0 then e2 else e1)) H) : AC Tryz.prog GG 64 [I n, .sl id 0 2 2] H K := by
  obtain ⟨a1, a2, a3⟩ := q1.cell
  obtain ⟨b1, b2, b3⟩ := q2.cell
  refine AC.of_body (c := (Tryz.f64.body.getD .skip)) Tryz.func64 rfl (by decide) ok64 ro64 (by exact (by decide : 2 ≤ 21)) ?_
  refine walk hmix TOk.nil [] 3000 1 dr64 ?_
  delta Tryz.f64
  simp only [Option.getD_some]
  simp (maxSteps := 2000000) only [resA, resL, resVar, Option.some.injEq, kw0, List.size_toArray, List.length_cons, List.length_nil, Nat.zero_add, List.range_succ, List.range_zero, List.nil_append, List.getElem?_toArray, List.getElem?_cons_zero, Go.Ab.put, ↓opK_some, ↓guK_none, kw1, roOf, aop, ev, ofV, ↓roK_ok, Nat.reduceAdd, List.cons_append, upd, Nat.reduceEqDiff, ↓reduceIte, argTs, List.getD_cons_succ, List.getD_cons_zero, List.getElem?_cons_succ, ty3, Int.cast_ofNat_Int, Option.map_some, aBin, aBinI, Int.reduceLT, decide_true, ↓gdK_true, aInt, ty2, hid, Int.reduceLE, and_self, Int.toNat_zero, Nat.add_zero, aload, ty1, rdCells, Nat.reduceLT, Nat.le_refl, a3, List.drop_zero, List.take_succ_cons, List.take_nil, reduceCtorEq, tcall, Tab.nil, List.map_cons, List.map_nil, ↓roK_call, true_and]
  refine AC.pur p1 ?_
  by_cases h1 : e1 = 0
  · rw [if_pos h1] at hK
    refine walk hmix TOk.nil [] 3000 1 (by kernel_rfl) ?_
    simp (maxSteps := 2000000) only [h1, kw0, List.getElem?_toArray, List.getElem?_cons_succ, List.getElem?_cons_zero, Go.Ab.put, ↓opK_some, ↓guK_none, kw1, roOf, aop, ev, upd, ↓reduceIte, ↓roK_ok, List.size_toArray, List.length_cons, List.length_nil, Nat.zero_add, Nat.reduceAdd, List.range_succ, List.range_zero, List.nil_append, List.cons_append, aBin, ofV, aBinI, bne_eq_decide', ne_eq, not_true_eq_false, decide_false, Option.map_some, ↓gdK_false, Nat.reduceEqDiff, Int.zero_add, Int.reduceNeg, Int.reduceLE, Int.reduceLT, wrapL, decide_true, ↓gdK_true, aInt, ty2, hid, Int.cast_ofNat_Int, and_self, Int.toNat_one, aload, ty1, rdCells, Nat.reduceLT, Nat.le_refl, List.getD_cons_succ, List.getD_cons_zero, b3, List.drop_zero, List.take_succ_cons, List.take_nil, reduceCtorEq, argTs, tcall, Tab.nil, List.map_cons, List.map_nil, ↓roK_call, true_and]
    refine AC.pur p2 ?_
    refine walk hmix TOk.nil [] 3000 1 (by kernel_rfl) ?_
    by_cases h2 : e2 = 0
    · simp (maxSteps := 2000000) only [h2, kw0, List.getElem?_toArray, List.getElem?_cons_succ, List.getElem?_cons_zero, Go.Ab.put, ↓opK_some, ↓guK_none, kw1, roOf, aop, ev, upd, ↓reduceIte, ↓roK_ok, List.size_toArray, List.length_cons, List.length_nil, Nat.zero_add, Nat.reduceAdd, List.range_succ, List.range_zero, List.nil_append, List.cons_append, aBin, ofV, aBinI, bne_eq_decide', ne_eq, not_true_eq_false, decide_false, Option.map_some, ↓gdK_false, Nat.reduceEqDiff, Int.reduceAdd, Int.reduceNeg, Int.reduceLE, Int.reduceLT, wrapL, exitTo, beq_self_eq_true, reduceCtorEq, or_false, ↓exK_some, or_true, true_and]
      exact ⟨_, rfl, h2 ▸ hK⟩
    · simp (maxSteps := 2000000) only [kw0, List.getElem?_toArray, List.getElem?_cons_succ, List.getElem?_cons_zero, Go.Ab.put, ↓opK_some, ↓guK_none, kw1, roOf, aop, ev, upd, ↓reduceIte, ↓roK_ok, List.size_toArray, List.length_cons, List.length_nil, Nat.zero_add, Nat.reduceAdd, List.range_succ, List.range_zero, List.nil_append, List.cons_append, aBin, ofV, aBinI, bne_eq_decide', ne_eq, h2, not_false_eq_true, decide_true, Option.map_some, ↓gdK_true, Nat.reduceEqDiff, reduceCtorEq, or_true, true_and]
      exact ⟨_, rfl, hK⟩
  · rw [if_neg h1] at hK
    refine walk hmix TOk.nil [] 3000 1 (by kernel_rfl) ?_
    simp (maxSteps := 2000000) only [kw0, List.getElem?_toArray, List.getElem?_cons_succ, List.getElem?_cons_zero, Go.Ab.put, ↓opK_some, ↓guK_none, kw1, roOf, aop, ev, upd, ↓reduceIte, ↓roK_ok, List.size_toArray, List.length_cons, List.length_nil, Nat.zero_add, Nat.reduceAdd, List.range_succ, List.range_zero, List.nil_append, List.cons_append, aBin, ofV, aBinI, bne_eq_decide', ne_eq, h1, not_false_eq_true, decide_true, Option.map_some, ↓gdK_true, Nat.reduceEqDiff, reduceCtorEq, or_true, true_and]
    exact ⟨_, rfl, hK⟩
end Go.Ab.Pd

set_option linter.unusedSimpArgs false
set_option linter.unusedVariables false
namespace Go.Ab.Pd
open Go.Proofs
theorem cellU (ws : List Int) : ∀ x ∈ ws.map U, x.isCell = true := by
  intro x hx
  obtain ⟨_, _, rfl⟩ := List.mem_map.1 hx
  rfl
theorem ok65 : codeOk 8 (Tryz.f65.body.getD .skip) = true := by kernel_rfl
theorem ro65 : resOk 8 Tryz.f65.results = true := by kernel_rfl
theorem dr65 : todoDr [] [.code (Tryz.f65.body.getD .skip)] = true := by kernel_rfl
set_option maxHeartbeats 4000000 in
set_option maxRecDepth 400000 in
theorem clone_fresh {ws : List Int} (h0 : 0 < ws.length) (hl : ws.length ≤ 2 ^ 16) : Fresh Tryz.prog GG 65 [.isl (ws.map U)] (ws.map U) := by
  refine Fresh.of_alone ggp (by simp [AV.purL, AV.pur, purL_map U _ (fun _ => rfl)]) (purL_map U _ (fun _ => rfl)) (by simpa using h0) ?_
  obtain ⟨C, happ, hC⟩ := aAppZ (P := Tryz.prog) un30 un30 ze37 rfl by37 (H := [.arr 1 []]) (cellU ws) (by simpa using h0)
  refine AC.of_body (c := (Tryz.f65.body.getD .skip)) Tryz.func65 rfl (by decide) ok65 ro65 (by exact (by decide : 1 ≤ 8)) ?_
  refine walk hmix TOk.nil [] 3000 1 dr65 ?_
  delta Tryz.f65
  simp only [Option.getD_some]
  simp (maxSteps := 2000000) only [resA, resL, resVar, Option.some.injEq, kw0, List.size_toArray, List.length_cons, List.length_nil, Nat.zero_add, List.range_succ, List.range_zero, List.nil_append, List.getElem?_toArray, List.getElem?_cons_zero, Go.Ab.put, ↓opK_some, ↓guK_none, kw1, roOf, aop, ev, ofV, ↓roK_ok, Nat.reduceAdd, List.cons_append, upd, reduceCtorEq, ↓reduceIte, argTs, List.getD_cons_zero, List.getElem?_cons_succ, aBin, aBinAgg, aEqS, ty1, isNilS, Option.map_some, ↓gdK_false, AV.cells.eq_2, Nat.reduceMul, Nat.reducePow, Nat.reduceLeDiff, slv, List.reduceReplicate, List.map_nil, aFillEs, aop2, Nat.reduceEqDiff, happ, or_true, true_and]
  refine ⟨hC (by rw [List.length_map]; omega) (by rw [List.length_map]; omega), _, rfl, ?_⟩
  exact Own.row rfl (by simpa using h0)
def andnV (x y : Int) : Int := IntKind.u64.wrap ((BitVec.ofInt IntKind.u64.bits x &&& ~~~(BitVec.ofInt IntKind.u64.bits y)).toNat : Int)
theorem ok44 : codeOk 8 (Tryz.f44.body.getD .skip) = true := by kernel_rfl
theorem ro44 : resOk 8 Tryz.f44.results = true := by kernel_rfl
theorem dr44 : todoDr [] [.code (Tryz.f44.body.getD .skip)] = true := by kernel_rfl
set_option maxHeartbeats 4000000 in
set_option maxRecDepth 400000 in
theorem andn_pur (x y : Int) : Pur Tryz.prog GG 44 [U x, U y] (U (andnV x y)) := by
  refine Pur.of_alone ggp (by first | rfl | (simp [AV.purL, AV.pur]; done) | (simp [AV.purL, AV.pur, frS_pur (purL_map IA _ (fun _ => rfl)), purL_map U _ (fun _ => rfl)]; done) | (simp [AV.purL, AV.pur, *]; done)) (AC.of_body (c := (Tryz.f44.body.getD .skip)) Tryz.func44 rfl (by decide) ok44 ro44 (by exact (by decide : 2 ≤ 8)) ?_)
  refine walk hmix T22_ok [] 3000 0 dr44 ?_
  delta Tryz.f44
  simp only [Option.getD_some]
  simp (maxSteps := 2000000) only [T22, T21, T20, T19, T18, T17, T16, T13, T12, T11, T10, T9, T8, T7, T6, T5, T4, T3, T2, T1, T0, resA, resL, resVar, Option.some.injEq, kw0, List.size_toArray, List.length_cons, List.length_nil, Nat.zero_add, List.range_succ, List.range_zero, List.nil_append, List.getElem?_toArray, List.getElem?_cons_zero, Go.Ab.put, ↓opK_some, ↓guK_none, kw1, roOf, aop, ev, ofV, ↓roK_ok, Nat.reduceAdd, List.cons_append, upd, reduceCtorEq, ↓reduceIte, argTs, List.getD_cons_zero, List.getElem?_cons_succ, Nat.reduceEqDiff, List.getD_cons_succ, aBin, aBinI, Option.map_some, or_true, true_and]
  exact ⟨_, rfl, done_pur rfl rfl⟩
def g44 : List AV → Option (Prop × AV)
  | [(.c (.int .u64 x)), (.c (.int .u64 y))] => some (True, U (andnV x y))
  | _ => none
theorem g44_ok : ∀ args p, g44 args = some p → p.1 → Pur Tryz.prog GG 44 args p.2 := by
  intro args p hp hc
  unfold g44 at hp
  split at hp
  · cases hp
    exact andn_pur _ _
  · cases hp
def T23 : Tab := Tab.ext T22 44 g44
theorem T23_ok : TOk Tryz.prog GG T23 := TOk.ext T22_ok g44_ok
def lessStep (ys : List Int) (xs : List Int) (i : Nat) : List Int := xs.set i (andnV (xs.getD i 0) (ys.getD i 0))
def lessL (xs ys : List Int) : List Int := (List.range' 0 ys.length).foldl (lessStep ys) xs
theorem lessF_inU (ys : List Int) : ∀ (l : List Nat) {xs : List Int}, (∀ w ∈ xs, inU w) → ∀ w ∈ l.foldl (lessStep ys) xs, inU w
  | [], xs, h => h
  | i :: l, xs, h => by
    rw [List.foldl_cons]
    refine lessF_inU ys l (fun w hw => ?_)
    rcases List.mem_or_eq_of_mem_set hw with h1 | h1
    · exact h w h1
    · rw [h1]; exact wrap_inU _
theorem ok43 : codeOk 43 (Tryz.f43.body.getD .skip) = true := by kernel_rfl
theorem ro43 : resOk 43 Tryz.f43.results = true := by kernel_rfl
theorem dr43 : todoDr [] [.code (Tryz.f43.body.getD .skip)] = true := by kernel_rfl
set_option maxHeartbeats 4000000 in
set_option maxRecDepth 400000 in
theorem joined_less (n : Int) {s1 s2 : AV} (q1 : IsSet s1) (q2 : IsSet s2) : ∃ s e, IsSet s ∧ Pur Tryz.prog GG 43 [I n, s1, s2, .fn 44 [] []] (.tup [s, I e]) := by
  obtain ⟨e1, p1, r1⟩ := check_ex q1 n
  obtain ⟨e2, p2, r2⟩ := check_ex q2 n
  have hp1 := q1.pur
  have hp2 := q2.pur
  obtain ⟨a1, a2, a3⟩ := q1.cell
  obtain ⟨b1, b2, b3⟩ := q2.cell
  by_cases he : (if e1 = 0 then e2 else e1) = 0
  · have h1 : e1 = 0 := by split at he <;> simp_all
    have h2 : e2 = 0 := by rw [if_pos h1] at he; exact he
    obtain ⟨hn, xs, hx, rfl, lx⟩ := r1 h1
    obtain ⟨_, ys, hy, rfl, ly⟩ := r2 h2
    have hlen : xs.length = ys.length := by omega
    refine ⟨.isl ((lessL xs ys).map U), 0, .isl (lessF_inU ys _ hx), ?_⟩
    refine Pur.of_alone ggp (by simp [AV.purL, AV.pur, purL_map U _ (fun _ => rfl)]) (AC.of_body (c := (Tryz.f43.body.getD .skip)) Tryz.func43 rfl (by decide) ok43 ro43 (by exact (by decide : 4 ≤ 43)) ?_)
    refine walk hmix T23_ok [] 3000 0 dr43 ?_
    delta Tryz.f43
    simp only [Option.getD_some]
    simp (maxSteps := 2000000) only [T23, T22, T21, T20, T19, T18, T17, T16, T13, T12, T11, T10, T9, T8, T7, T6, T5, T4, T3, T2, T1, T0, resA, resL, resVar, Option.some.injEq, kw0, List.size_toArray, List.length_cons, List.length_nil, Nat.zero_add, Nat.reduceAdd, List.range_succ, List.range_zero, List.nil_append, List.cons_append, List.getElem?_toArray, List.getElem?_cons_zero, Go.Ab.put, ↓opK_some, ↓guK_none, kw1, roOf, aop, ev, ofV, ↓roK_ok, List.getElem?_cons_succ, upd, reduceCtorEq, ↓reduceIte, argTs, List.getD_cons_zero, Nat.reduceEqDiff, List.getD_cons_succ, ty2, ty1, AV.cells.eq_2, Nat.reduceMul, Nat.reducePow, Nat.reduceLeDiff, slv, List.reduceReplicate, List.map_cons, List.map_nil, aFillEs, AV.isEl.eq_2, Nat.reduceLT, and_self, List.set_cons_zero, List.set_cons_succ, Option.map_some, tcall, Tab.ext, Tab.nil, ↓roK_call, true_and]
    refine checked_ac p1 p2 q1 q2 rfl ?_
    rw [he]
    refine walk hmix T23_ok [] 3000 0 (by kernel_rfl) ?_
    simp (maxSteps := 2000000) only [T23, T22, T21, T20, T19, T18, T17, T16, T13, T12, T11, T10, T9, T8, T7, T6, T5, T4, T3, T2, T1, T0, kw0, List.getElem?_toArray, List.getElem?_cons_succ, List.getElem?_cons_zero, Go.Ab.put, ↓opK_some, ↓guK_none, kw1, roOf, aop, ev, upd, ↓reduceIte, ↓roK_ok, List.size_toArray, List.length_cons, List.length_nil, Nat.zero_add, Nat.reduceAdd, List.range_succ, List.range_zero, List.nil_append, List.cons_append, aBin, ofV, aBinI, bne_eq_decide', ne_eq, not_true_eq_false, decide_false, Option.map_some, ↓gdK_false, Nat.reduceEqDiff, argTs, List.getD_cons_succ, List.getD_cons_zero, tcall, Tab.ext, Tab.nil, List.map_cons, List.map_nil, ↓roK_call, true_and]
    refine clone_fresh (by omega) (by omega) _ _ ?_
    refine walk hmix T23_ok [] 3000 0 (by kernel_rfl) ?_
    simp (maxSteps := 2000000) only [T23, T22, T21, T20, T19, T18, T17, T16, T13, T12, T11, T10, T9, T8, T7, T6, T5, T4, T3, T2, T1, T0, List.length_cons, List.length_nil, Nat.zero_add, List.cons_append, List.nil_append, kw0, List.getElem?_toArray, List.getElem?_cons_succ, List.getElem?_cons_zero, Go.Ab.put, ↓opK_some, ↓guK_none, kw1, roOf, aop, ev, upd, ↓reduceIte, ↓roK_ok, List.size_toArray, Nat.reduceAdd, List.range_succ, List.range_zero, Nat.reduceEqDiff, argTs, List.getD_cons_succ, List.getD_cons_zero, ty1, Option.map_some, ofV, true_and]
    refine FW.loopInv (fun l ts H => ∃ (i : Nat) (ws : List Int), i + l = ys.length ∧ (List.range' i l).foldl (lessStep ys) ws = lessL xs ys ∧ ws.length = ys.length ∧ H = [.arr 1 [.isl (xs.map U), .isl (ys.map U)], .arr 1 (ws.map U)] ∧ ts 3 = .fn 44 [] [] ∧
      ts 11 = .sl 1 0 (xs.map U).length (xs.map U).length ∧ ts 24 = .isl (ys.map U) ∧ ts 25 = I (ys.map U).length ∧ ts 26 = I (i : Int)) ys.length
      ⟨0, xs, by omega, rfl, hlen, rfl, rfl, rfl, rfl, rfl, rfl⟩ ?_
    rintro l ih ts H ⟨i, ws, hi, hws, hwl, rfl, t3, t11, t24, t25, t26⟩
    rw [List.length_map] at t25 t11
    refine FW.inLoop ?_
    by_cases hlt : i < ys.length
    · have hd1 : decide ((i : Int) < (ys.length : Int)) = true := by simp [hlt]
      have hiw : i < ws.length := by omega
      have hgy := getD_map U ys 0 hlt
      have hgw := getD_map U ws 0 hiw
      have hset : (ws.map U).set i (U (andnV (ws.getD i 0) (ys.getD i 0))) = (lessStep ys ws i).map U := by rw [lessStep, List.map_set]
      obtain ⟨l, rfl⟩ : ∃ l', l = l' + 1 := ⟨l - 1, by omega⟩
      refine walk hmix T23_ok [] 3000 0 (by kernel_rfl) ?_
      simp (maxSteps := 2000000) only [T23, T22, T21, T20, T19, T18, T17, T16, T13, T12, T11, T10, T9, T8, T7, T6, T5, T4, T3, T2, T1, T0, kw0, List.size_toArray, List.length_cons, List.length_nil, Nat.zero_add, List.range_succ, List.range_zero, List.nil_append, List.getElem?_toArray, List.getElem?_cons_zero, Go.Ab.put, ↓opK_some, ↓guK_none, kw1, roOf, aop, aBin, ev, t26, t25, aBinI, ↓reduceIte, hd1, Option.map_some, ↓roK_ok, upd, ↓gdK_true, Nat.reduceAdd, List.cons_append, Nat.reduceEqDiff, List.getElem?_cons_succ, aInt, t24, ty1, List.length_map, Int.toNat_natCast, hgy, AV.cells.eq_2, and_true, aload, rdCells, Nat.le_refl, List.drop_zero, List.take_succ_cons, List.take_nil, t11, t3, hiw, and_self, hgw, tcall, Tab.ext, g44, List.map_cons, List.map_nil, List.append_nil, astore, AV.isEl.eq_2, wrCells, reEl, splice, List.take_zero, List.drop_succ_cons, List.drop_nil, List.getD_cons_zero, hset, List.set_cons_succ, List.set_cons_zero, ofV, true_and]
      rw [wrapL (n := (i : Int) + 1) (by omega) (by omega)]
      repeat (refine ⟨by omega, ?_⟩)
      exact ih l (by omega) _ _ ⟨i + 1, lessStep ys ws i, by omega, by rw [← hws]; rfl, by simp [lessStep, hwl], rfl, t3, by rw [List.length_map]; exact t11, t24, by rw [List.length_map]; exact t25, rfl⟩
    · have hd1 : decide ((i : Int) < (ys.length : Int)) = false := by simp; omega
      have hl : l = 0 := by omega
      subst hl
      refine walk hmix T23_ok [] 3000 0 (by kernel_rfl) ?_
      simp (maxSteps := 2000000) only [T23, T22, T21, T20, T19, T18, T17, T16, T13, T12, T11, T10, T9, T8, T7, T6, T5, T4, T3, T2, T1, T0, kw0, List.size_toArray, List.length_cons, List.length_nil, Nat.zero_add, List.range_succ, List.range_zero, List.nil_append, List.getElem?_toArray, List.getElem?_cons_zero, Go.Ab.put, ↓opK_some, ↓guK_none, kw1, roOf, aop, aBin, ev, t26, t25, aBinI, ↓reduceIte, hd1, Option.map_some, ↓roK_ok, upd, ↓gdK_false, exitTo, beq_self_eq_true, reduceCtorEq, or_false, Nat.reduceEqDiff, ↓exK_some, Nat.reduceAdd, List.cons_append, t11, List.getElem?_cons_succ, ofV, or_true, true_and]
      have hws' : ws = lessL xs ys := hws
      have hown : Own [.arr 1 [.isl (xs.map U), .isl (ys.map U)], .arr 1 (ws.map U)] (.sl 1 0 xs.length xs.length) (ws.map U) := by
        have := Own.row (H := [.arr 1 [.isl (xs.map U), .isl (ys.map U)], .arr 1 (ws.map U)]) (id := 1) (es := ws.map U) rfl (by rw [List.length_map]; omega)
        rw [List.length_map, hwl, ← hlen] at this
        exact this
      obtain ⟨m', hm'⟩ := hown.done2 (v := I 0) (purL_map U _ (fun _ => rfl)) rfl
      exact ⟨_, rfl, m', by rw [hm', frS_ne (by rw [List.length_map]; omega), hws']⟩
  · refine ⟨.c (.slice none 0 0), if e1 = 0 then e2 else e1, .nil, ?_⟩
    refine Pur.of_alone ggp (by simp [AV.purL, AV.pur, hp1, hp2]) (AC.of_body (c := (Tryz.f43.body.getD .skip)) Tryz.func43 rfl (by decide) ok43 ro43 (by exact (by decide : 4 ≤ 43)) ?_)
    refine walk hmix T23_ok [] 3000 0 dr43 ?_
    delta Tryz.f43
    simp only [Option.getD_some]
    simp (maxSteps := 2000000) only [T23, T22, T21, T20, T19, T18, T17, T16, T13, T12, T11, T10, T9, T8, T7, T6, T5, T4, T3, T2, T1, T0, resA, resL, resVar, Option.some.injEq, kw0, List.size_toArray, List.length_cons, List.length_nil, Nat.zero_add, Nat.reduceAdd, List.range_succ, List.range_zero, List.nil_append, List.cons_append, List.getElem?_toArray, List.getElem?_cons_zero, Go.Ab.put, ↓opK_some, ↓guK_none, kw1, roOf, aop, ev, ofV, ↓roK_ok, List.getElem?_cons_succ, upd, reduceCtorEq, ↓reduceIte, argTs, List.getD_cons_zero, Nat.reduceEqDiff, List.getD_cons_succ, ty2, ty1, AV.cells.eq_2, Nat.reduceMul, Nat.reducePow, Nat.reduceLeDiff, slv, List.reduceReplicate, List.map_cons, List.map_nil, aFillEs, a2, a3, Nat.reduceLT, and_self, b2, b3, List.set_cons_zero, List.set_cons_succ, Option.map_some, tcall, Tab.ext, Tab.nil, ↓roK_call, true_and]
    refine checked_ac p1 p2 q1 q2 rfl ?_
    refine walk hmix T23_ok [] 3000 0 (by kernel_rfl) ?_
    generalize (if e1 = 0 then e2 else e1) = e at he
    simp (maxSteps := 2000000) only [T23, T22, T21, T20, T19, T18, T17, T16, T13, T12, T11, T10, T9, T8, T7, T6, T5, T4, T3, T2, T1, T0, kw0, List.getElem?_toArray, List.getElem?_cons_succ, List.getElem?_cons_zero, Go.Ab.put, ↓opK_some, ↓guK_none, kw1, roOf, aop, ev, upd, ↓reduceIte, ↓roK_ok, List.size_toArray, List.length_cons, List.length_nil, Nat.zero_add, Nat.reduceAdd, List.range_succ, List.range_zero, List.nil_append, List.cons_append, aBin, ofV, aBinI, bne_eq_decide', ne_eq, he, not_false_eq_true, decide_true, Option.map_some, ↓gdK_true, Nat.reduceEqDiff, reduceCtorEq, or_true, true_and]
    exact ⟨_, rfl, done_pur rfl rfl⟩
theorem ok30 : codeOk 14 (Tryz.f30.body.getD .skip) = true := by kernel_rfl
theorem ro30 : resOk 14 Tryz.f30.results = true := by kernel_rfl
theorem dr30 : todoDr [] [.code (Tryz.f30.body.getD .skip)] = true := by kernel_rfl
set_option maxHeartbeats 4000000 in
set_option maxRecDepth 400000 in
theorem less_of {n e : Int} {s1 s2 s : AV} (hp : Pur Tryz.prog GG 43 [I n, s1, s2, .fn 44 [] []] (.tup [s, I e])) (h1 : s1.pur = true) (h2 : s2.pur = true) (h3 : s.pur = true) : Pur Tryz.prog GG 30 [I n, s1, s2] (.tup [s, I e]) := by
  refine Pur.of_alone ggp (by simp [AV.purL, AV.pur, h1, h2]) (AC.of_body (c := (Tryz.f30.body.getD .skip)) Tryz.func30 rfl (by decide) ok30 ro30 (by exact (by decide : 3 ≤ 14)) ?_)
  refine walk hmix T23_ok [] 3000 0 dr30 ?_
  delta Tryz.f30
  simp only [Option.getD_some]
  simp (maxSteps := 2000000) only [T23, T22, T21, T20, T19, T18, T17, T16, T13, T12, T11, T10, T9, T8, T7, T6, T5, T4, T3, T2, T1, T0, resA, resL, resVar, Option.some.injEq, kw0, List.size_toArray, List.length_cons, List.length_nil, Nat.zero_add, Nat.reduceAdd, List.range_succ, List.range_zero, List.nil_append, List.cons_append, List.getElem?_toArray, List.getElem?_cons_zero, Go.Ab.put, ↓opK_some, ↓guK_none, kw1, roOf, aop, ev, ofV, ↓roK_ok, List.getElem?_cons_succ, upd, reduceCtorEq, ↓reduceIte, argTs, List.getD_cons_zero, Nat.reduceEqDiff, List.getD_cons_succ, tcall, Tab.ext, Tab.nil, List.map_cons, List.map_nil, ↓roK_call, true_and]
  refine AC.pur hp ?_
  refine walk hmix T23_ok [] 3000 0 (by kernel_rfl) ?_
  simp (maxSteps := 2000000) only [T23, T22, T21, T20, T19, T18, T17, T16, T13, T12, T11, T10, T9, T8, T7, T6, T5, T4, T3, T2, T1, T0, kw0, List.getElem?_toArray, List.getElem?_cons_succ, List.getElem?_cons_zero, Go.Ab.put, ↓opK_some, ↓guK_none, kw1, roOf, aop, ev, upd, ↓reduceIte, Option.map_some, ↓roK_ok, Nat.reduceEqDiff, reduceCtorEq, or_true, true_and]
  exact ⟨_, rfl, done_pur (by simp [AV.pur, AV.purL, h3]) rfl⟩
theorem less_ex (n : Int) {s1 s2 : AV} (q1 : IsSet s1) (q2 : IsSet s2) : ∃ s e, IsSet s ∧ Pur Tryz.prog GG 30 [I n, s1, s2] (.tup [s, I e]) := by
  obtain ⟨s, e, hs, hp⟩ := joined_less n q1 q2
  exact ⟨s, e, hs, less_of hp q1.pur q2.pur hs.pur⟩
end Go.Ab.Pd

set_option linter.unusedSimpArgs false
set_option linter.unusedVariables false
namespace Go.Ab.Pd
open Go.Proofs
def tzI (w : Int) : Int := (IntKind.u64.wrap (IntKind.u64.wrap ((BitVec.ofInt IntKind.u64.bits w &&& BitVec.ofInt IntKind.u64.bits (IntKind.u64.wrap (0 - w))).toNat : Int) * 285870213051353865)).fdiv (2 ^ (min 58 IntKind.u64.bits))
theorem tzI_lt (w : Int) : 0 ≤ tzI w ∧ (tzI w).toNat < 64 := by
  unfold tzI
  have h := wrap_inU (IntKind.u64.wrap ((BitVec.ofInt IntKind.u64.bits w &&& BitVec.ofInt IntKind.u64.bits (IntKind.u64.wrap (0 - w))).toNat : Int) * 285870213051353865)
  generalize IntKind.u64.wrap (IntKind.u64.wrap ((BitVec.ofInt IntKind.u64.bits w &&& BitVec.ofInt IntKind.u64.bits (IntKind.u64.wrap (0 - w))).toNat : Int) * 285870213051353865) = x at h
  unfold inU at h
  rw [show (2 : Int) ^ (min 58 IntKind.u64.bits) = 288230376151711744 by decide, Int.fdiv_eq_ediv_of_nonneg _ (by decide)]
  omega
theorem tab0_len : tab0.length = 64 := by rfl
theorem tab0_u8 : ∀ i, i < 64 → ∃ n : Int, tab0.getD i .un = .c (.int .u8 n) := by
  intro i hi
  refine ⟨(match tab0.getD i .un with | .c (.int _ n) => n | _ => 0), ?_⟩
  have : ∀ j : Fin 64, ∃ n, tab0.getD j.1 .un = .c (.int .u8 n) := by
    intro j
    have hm : tab0.getD j.1 .un ∈ tab0 := by
      rw [show tab0.getD j.1 .un = tab0[j.1]'(by rw [tab0_len]; exact j.2) by simp [List.getD, tab0_len]]
      exact List.getElem_mem _
    unfold tab0 at hm
    obtain ⟨n, _, hn⟩ := List.mem_map.1 hm
    exact ⟨n, hn.symm⟩
  obtain ⟨n, hn⟩ := this ⟨i, hi⟩
  simp only at hn
  rw [hn]
theorem tab_drop {i : Nat} {v : AV} (hi : i < 64) (h : tab0.getD i .un = v) : (tab0.drop i).take 1 = [v] := by
  have hl : i < tab0.length := by rw [tab0_len]; exact hi
  rw [List.drop_eq_getElem_cons hl, List.take_succ_cons, List.take_zero]
  simp only [List.getD, List.getElem?_eq_getElem hl, Option.getD_some] at h
  rw [h]
theorem tab_le {i : Nat} (hi : i < 64) : (i + 1 ≤ tab0.length) = True := by
  rw [tab0_len]
  exact eq_true hi
theorem GGat0 : GG 0 = some tab0 := (rfl)
theorem ok66 : codeOk 14 (Tryz.f66.body.getD .skip) = true := by kernel_rfl
theorem ro66 : resOk 14 Tryz.f66.results = true := by kernel_rfl
theorem dr66 : todoDr [] [.code (Tryz.f66.body.getD .skip)] = true := by kernel_rfl
set_option maxHeartbeats 4000000 in
set_option maxRecDepth 400000 in
theorem tz_zero (w : Int) (hp : w = 0) : Pur Tryz.prog GG 66 [U w] (I 64) := by
  have hd : decide (w = 0) = true := decide_eq_true hp
  refine Pur.of_alone ggp (by first | rfl | (simp [AV.purL, AV.pur]; done) | (simp [AV.purL, AV.pur, frS_pur (purL_map IA _ (fun _ => rfl)), purL_map U _ (fun _ => rfl)]; done) | (simp [AV.purL, AV.pur, *]; done)) (AC.of_body (c := (Tryz.f66.body.getD .skip)) Tryz.func66 rfl (by decide) ok66 ro66 (by exact (by decide : 1 ≤ 14)) ?_)
  refine walk hmix T23_ok [] 3000 0 dr66 ?_
  delta Tryz.f66
  simp only [Option.getD_some]
  simp (maxSteps := 2000000) only [T23, T22, T21, T20, T19, T18, T17, T16, T13, T12, T11, T10, T9, T8, T7, T6, T5, T4, T3, T2, T1, T0, resA, resL, resVar, Option.some.injEq, kw0, List.size_toArray, List.length_cons, List.length_nil, Nat.zero_add, List.range_succ, List.range_zero, List.nil_append, List.getElem?_toArray, List.getElem?_cons_zero, Go.Ab.put, ↓opK_some, ↓guK_none, kw1, roOf, aop, ev, ofV, ↓roK_ok, Nat.reduceAdd, List.cons_append, upd, reduceCtorEq, ↓reduceIte, argTs, List.getD_cons_zero, List.getElem?_cons_succ, aBin, aBinI, beq_eq_decide', hd, Option.map_some, ↓gdK_true, or_true, true_and]
  exact ⟨_, rfl, done_pur rfl rfl⟩
set_option maxHeartbeats 4000000 in
set_option maxRecDepth 400000 in
theorem tz_pos (w m q : Int) (hp : ¬w = 0 ∧ tab0.getD q.toNat .un = .c (.int .u8 m) ∧ (0 ≤ q ∧ q.toNat < 64) ∧ (IntKind.u64.wrap (IntKind.u64.wrap ((BitVec.ofInt IntKind.u64.bits w &&& BitVec.ofInt IntKind.u64.bits (IntKind.u64.wrap (0 - w))).toNat : Int) * 285870213051353865)).fdiv (2 ^ (min 58 IntKind.u64.bits)) = q) : Pur Tryz.prog GG 66 [U w] (I (IntKind.i64.wrap m)) := by
  obtain ⟨hw, hm, hq, hi⟩ := hp
  have hd : decide (w = 0) = false := decide_eq_false hw
  have hrd := tab_drop hq.2 hm
  have hle := tab_le hq.2
  refine Pur.of_alone ggp (by first | rfl | (simp [AV.purL, AV.pur]; done) | (simp [AV.purL, AV.pur, frS_pur (purL_map IA _ (fun _ => rfl)), purL_map U _ (fun _ => rfl)]; done) | (simp [AV.purL, AV.pur, *]; done)) (AC.of_body (c := (Tryz.f66.body.getD .skip)) Tryz.func66 rfl (by decide) ok66 ro66 (by exact (by decide : 1 ≤ 14)) ?_)
  refine walk hmix T23_ok [] 3000 0 dr66 ?_
  delta Tryz.f66
  simp only [Option.getD_some]
  simp (maxSteps := 2000000) only [T23, T22, T21, T20, T19, T18, T17, T16, T13, T12, T11, T10, T9, T8, T7, T6, T5, T4, T3, T2, T1, T0, resA, resL, resVar, Option.some.injEq, kw0, List.size_toArray, List.length_cons, List.length_nil, Nat.zero_add, List.range_succ, List.range_zero, List.nil_append, List.getElem?_toArray, List.getElem?_cons_zero, Go.Ab.put, ↓opK_some, ↓guK_none, kw1, roOf, aop, ev, ofV, ↓roK_ok, Nat.reduceAdd, List.cons_append, upd, reduceCtorEq, ↓reduceIte, argTs, List.getD_cons_zero, List.getElem?_cons_succ, aBin, aBinI, beq_eq_decide', hd, Option.map_some, ↓gdK_false, Nat.reduceEqDiff, Int.reduceLE, Int.reduceToNat, hi, aInt, ty4, ptrAdd, Nat.mul_one, aload, ty0, rdCells, GGat0, hle, hrd, or_true, true_and]
  exact ⟨by omega, _, rfl, done_pur rfl rfl⟩
theorem tz_ex (w : Int) : ∃ n, Pur Tryz.prog GG 66 [U w] (I n) := by
  by_cases hw : w = 0
  · exact ⟨64, tz_zero w hw⟩
  · obtain ⟨m, hm⟩ := tab0_u8 (tzI w).toNat (tzI_lt w).2
    exact ⟨_, tz_pos w m _ ⟨hw, hm, tzI_lt w, rfl⟩⟩
end Go.Ab.Pd

set_option linter.unusedSimpArgs false
set_option linter.unusedVariables false
namespace Go.Ab.Pd
open Go.Proofs
noncomputable def tzV (w : Int) : Int := Classical.choose (tz_ex w)
theorem tzV_pur (w : Int) : Pur Tryz.prog GG 66 [U w] (I (tzV w)) := Classical.choose_spec (tz_ex w)
def andV (x y : Int) : Int := IntKind.u64.wrap ((BitVec.ofInt IntKind.u64.bits x &&& BitVec.ofInt IntKind.u64.bits y).toNat : Int)
def dropV (w : Int) : Int := andV w (IntKind.u64.wrap (w - 1))
theorem nat_drop {n k : Nat} (h0 : 0 < n) (h : 2 ^ k ∣ n) : 2 ^ (k + 1) ∣ (n &&& (n - 1)) := by
  obtain ⟨q, rfl⟩ := h
  apply Nat.dvd_of_mod_eq_zero
  rw [Nat.and_mod_two_pow]
  have hk : 0 < 2 ^ k := Nat.two_pow_pos k
  rcases Nat.mod_two_eq_zero_or_one q with hq | hq
  · obtain ⟨j, rfl⟩ : ∃ j, q = 2 * j := ⟨q / 2, by omega⟩
    rw [show 2 ^ k * (2 * j) = 2 ^ (k + 1) * j by rw [Nat.pow_succ, Nat.mul_assoc], Nat.mul_mod_right, Nat.zero_and]
  · obtain ⟨j, rfl⟩ : ∃ j, q = 2 * j + 1 := ⟨q / 2, by omega⟩
    have e1 : 2 ^ k * (2 * j + 1) = 2 ^ k + 2 ^ (k + 1) * j := by rw [Nat.mul_add, Nat.mul_one, Nat.pow_succ, Nat.mul_assoc, Nat.add_comm]
    have e2 : 2 ^ k * (2 * j + 1) - 1 = (2 ^ k - 1) + 2 ^ (k + 1) * j := by rw [e1]; omega
    rw [e2, e1, Nat.add_mul_mod_self_left, Nat.add_mul_mod_self_left, Nat.mod_eq_of_lt (by rw [Nat.pow_succ]; omega), Nat.mod_eq_of_lt (by rw [Nat.pow_succ]; omega), Nat.and_two_pow_sub_one_eq_mod, Nat.mod_self]
theorem dropV_nat {w : Int} (h : inU w) (h0 : ¬w = 0) : dropV w = ((w.toNat &&& (w.toNat - 1) : Nat) : Int) := by
  unfold inU at h
  obtain ⟨n, rfl⟩ : ∃ n : Nat, w = n := ⟨w.toNat, by omega⟩
  unfold dropV andV
  have e1 : IntKind.u64.wrap ((n : Int) - 1) = ((n - 1 : Nat) : Int) := by rw [IntKind.wrap_u64]; omega
  rw [e1, IntKind.wrap_u64, BitVec.toNat_and]
  have b1 : (BitVec.ofInt IntKind.u64.bits (n : Int)).toNat = n := by
    rw [BitVec.ofInt_natCast, BitVec.toNat_ofNat]
    exact Nat.mod_eq_of_lt (by show n < 2 ^ 64; omega)
  have b2 : (BitVec.ofInt IntKind.u64.bits ((n - 1 : Nat) : Int)).toNat = n - 1 := by
    rw [BitVec.ofInt_natCast, BitVec.toNat_ofNat]
    exact Nat.mod_eq_of_lt (by show n - 1 < 2 ^ 64; omega)
  rw [b1, b2, Int.toNat_natCast]
  have : n &&& (n - 1) ≤ n := Nat.and_le_left
  omega
def Lft (m : Nat) (w : Int) : Prop := inU w ∧ m ≤ 64 ∧ 2 ^ (64 - m) ∣ w.toNat
theorem Lft.zero {w : Int} (h : Lft 0 w) : w = 0 := by
  obtain ⟨h1, _, h2⟩ := h
  unfold inU at h1
  have : w.toNat < 2 ^ 64 := by omega
  have := Nat.eq_zero_of_dvd_of_lt h2 this
  omega
theorem Lft.drop {m : Nat} {w : Int} (h : Lft (m + 1) w) (h0 : ¬w = 0) : Lft m (dropV w) := by
  obtain ⟨h1, h2, h3⟩ := h
  refine ⟨wrap_inU _, by omega, ?_⟩
  rw [dropV_nat h1 h0, Int.toNat_natCast, show 64 - m = (64 - (m + 1)) + 1 by omega]
  unfold inU at h1
  exact nat_drop (by omega) h3
theorem Lft.start {w : Int} (h : inU w) : Lft 64 w := ⟨h, by omega, by simp⟩
noncomputable def wordL (i : Int) : Nat → Int → List Int
  | 0, _ => []
  | m + 1, w => if w = 0 then [] else IntKind.i64.wrap (IntKind.i64.wrap (64 * i) + tzV w) :: wordL i m (dropV w)
theorem wordL_length (i : Int) : ∀ (m : Nat) (w : Int), (wordL i m w).length ≤ m
  | 0, w => by simp [wordL]
  | m + 1, w => by
    unfold wordL
    split
    · simp
    · have := wordL_length i m (dropV w)
      simp; omega
noncomputable def listL (ws : List Int) : List Int := upto (fun i => wordL i 64 (ws.getD i.toNat 0)) 0 ws.length
theorem listL_length (ws : List Int) : (listL ws).length ≤ ws.length * 64 := upto_le _ 64 _ _ fun i _ _ => wordL_length _ _ _
theorem ok46 : codeOk 35 (Tryz.f46.body.getD .skip) = true := by kernel_rfl
theorem ro46 : resOk 35 Tryz.f46.results = true := by kernel_rfl
theorem dr46 : todoDr [] [.code (Tryz.f46.body.getD .skip)] = true := by kernel_rfl
set_option maxHeartbeats 4000000 in
set_option maxRecDepth 400000 in
theorem list_ex (n : Int) {s : AV} (q : IsSet s) : ∃ (l : List Int) (e : Int), l.length ≤ 2 ^ 18 ∧ Pur Tryz.prog GG 46 [I n, s] (.tup [frS (l.map IA), I e]) := by
  obtain ⟨e, p, r⟩ := check_ex q n
  have hpu := q.pur
  by_cases he : e = 0
  · obtain ⟨hn, ws, hw, rfl, lw⟩ := r he
    subst he
    have hll := listL_length ws
    refine ⟨listL ws, 0, by omega, ?_⟩
    refine Pur.of_alone ggp (by simp [AV.purL, AV.pur, purL_map U _ (fun _ => rfl)]) (AC.of_body (c := (Tryz.f46.body.getD .skip)) Tryz.func46 rfl (by decide) ok46 ro46 (by exact (by decide : 2 ≤ 35)) ?_)
    refine walk hmix T23_ok [] 3000 0 dr46 ?_
    delta Tryz.f46
    simp only [Option.getD_some]
    simp (maxSteps := 2000000) only [T23, T22, T21, T20, T19, T18, T17, T16, T13, T12, T11, T10, T9, T8, T7, T6, T5, T4, T3, T2, T1, T0, resA, resL, resVar, Option.some.injEq, kw0, List.size_toArray, List.length_cons, List.length_nil, Nat.zero_add, Nat.reduceAdd, List.range_succ, List.range_zero, List.nil_append, List.cons_append, List.getElem?_toArray, List.getElem?_cons_zero, Go.Ab.put, ↓opK_some, ↓guK_none, kw1, roOf, aop, ev, ofV, ↓roK_ok, List.getElem?_cons_succ, upd, reduceCtorEq, ↓reduceIte, argTs, List.getD_cons_zero, Nat.reduceEqDiff, List.getD_cons_succ, tcall, Tab.ext, Tab.nil, List.map_cons, List.map_nil, ↓roK_call, true_and]
    refine AC.pur p ?_
    refine walk hmix T23_ok [] 3000 0 (by kernel_rfl) ?_
    simp (maxSteps := 2000000) only [T23, T22, T21, T20, T19, T18, T17, T16, T13, T12, T11, T10, T9, T8, T7, T6, T5, T4, T3, T2, T1, T0, kw0, List.getElem?_toArray, List.getElem?_cons_succ, List.getElem?_cons_zero, Go.Ab.put, ↓opK_some, ↓guK_none, kw1, roOf, aop, ev, upd, ↓reduceIte, ↓roK_ok, List.size_toArray, List.length_cons, List.length_nil, Nat.zero_add, Nat.reduceAdd, List.range_succ, List.range_zero, List.nil_append, List.cons_append, aBin, ofV, aBinI, bne_eq_decide', ne_eq, not_true_eq_false, decide_false, Option.map_some, ↓gdK_false, Nat.reduceEqDiff, argTs, List.getD_cons_succ, List.getD_cons_zero, ty1, true_and]
    refine FW.loopInv (fun l ts H => ∃ (i : Nat) (es : List Int) (sl : AV), i + l = ws.length ∧ es ++ upto (fun i => wordL i 64 (ws.getD i.toNat 0)) (i : Int) l = listL ws ∧ Own H sl (es.map IA) ∧
      ts 4 = sl ∧ ts 5 = I 0 ∧ ts 13 = .isl (ws.map U) ∧ ts 14 = I (ws.map U).length ∧ ts 15 = I (i : Int)) ws.length
      ⟨0, [], _, by omega, rfl, .nil, rfl, rfl, rfl, rfl, rfl⟩ ?_
    rintro l ih ts H ⟨i, es, sl, hi, hes, hown, t4, t5, t13, t14, t15⟩
    rw [List.length_map] at t14
    refine FW.inLoop ?_
    by_cases hlt : i < ws.length
    · have hd1 : decide ((i : Int) < (ws.length : Int)) = true := by simp [hlt]
      have hgd := getD_map U ws 0 hlt
      have hiu : inU (ws.getD i 0) := hw _ (by rw [show ws.getD i 0 = ws[i] by simp [List.getD, hlt]]; exact List.getElem_mem hlt)
      obtain ⟨l, rfl⟩ : ∃ l', l = l' + 1 := ⟨l - 1, by omega⟩
      rw [upto_succ, Int.toNat_natCast] at hes
      generalize ws.getD i 0 = w at hgd hiu hes
      have hi1 := wrapL (n := (i : Int) + 1) (by omega) (by omega)
      by_cases hw0 : w = 0
      · subst hw0
        refine walk hmix T23_ok [] 3000 0 (by kernel_rfl) ?_
        simp (maxSteps := 2000000) only [T23, T22, T21, T20, T19, T18, T17, T16, T13, T12, T11, T10, T9, T8, T7, T6, T5, T4, T3, T2, T1, T0, kw0, List.size_toArray, List.length_cons, List.length_nil, Nat.zero_add, List.range_succ, List.range_zero, List.nil_append, List.getElem?_toArray, List.getElem?_cons_zero, Go.Ab.put, ↓opK_some, ↓guK_none, kw1, roOf, aop, aBin, ev, t15, t14, aBinI, ↓reduceIte, hd1, Option.map_some, ↓roK_ok, upd, ↓gdK_true, Nat.reduceAdd, List.cons_append, Nat.reduceEqDiff, List.getElem?_cons_succ, aInt, t13, ty1, List.length_map, Int.toNat_natCast, hgd, AV.cells.eq_2, and_true, aload, rdCells, Nat.le_refl, List.drop_zero, List.take_succ_cons, List.take_nil, ofV, bne_eq_decide', ne_eq, not_true_eq_false, decide_false, ↓gdK_false, hi1, true_and]
        refine ⟨by omega, ?_⟩
        exact ih l (by omega) _ _ ⟨i + 1, es, sl, by omega, by simpa [wordL] using hes, hown, t4, t5, t13, by rw [List.length_map]; exact t14, rfl⟩
      · refine walk hmix T23_ok [] 3000 0 (by kernel_rfl) ?_
        simp (maxSteps := 2000000) only [T23, T22, T21, T20, T19, T18, T17, T16, T13, T12, T11, T10, T9, T8, T7, T6, T5, T4, T3, T2, T1, T0, kw0, List.size_toArray, List.length_cons, List.length_nil, Nat.zero_add, List.range_succ, List.range_zero, List.nil_append, List.getElem?_toArray, List.getElem?_cons_zero, Go.Ab.put, ↓opK_some, ↓guK_none, kw1, roOf, aop, aBin, ev, t15, t14, aBinI, ↓reduceIte, hd1, Option.map_some, ↓roK_ok, upd, ↓gdK_true, Nat.reduceAdd, List.cons_append, Nat.reduceEqDiff, List.getElem?_cons_succ, aInt, t13, ty1, List.length_map, Int.toNat_natCast, hgd, AV.cells.eq_2, and_true, aload, rdCells, Nat.le_refl, List.drop_zero, List.take_succ_cons, List.take_nil, ofV, bne_eq_decide', ne_eq, hw0, not_false_eq_true, decide_true, t4, tcall, Tab.ext, Tab.nil, List.map_cons, List.map_nil, ↓roK_call, true_and]
        refine ⟨by omega, ?_⟩
        refine AC.pur (tzV_pur w) ?_
        have hap := fun v => aApp1 (P := Tryz.prog) un64 un64 ze3 rfl by3 hown v
        have hel := len_le_of_append hes
        refine walk hmix T23_ok [] 3000 0 (by kernel_rfl) ?_
        simp (maxSteps := 2000000) only [T23, T22, T21, T20, T19, T18, T17, T16, T13, T12, T11, T10, T9, T8, T7, T6, T5, T4, T3, T2, T1, T0, kw0, List.getElem?_toArray, List.getElem?_cons_succ, List.getElem?_cons_zero, Go.Ab.put, ↓opK_some, ↓guK_none, kw1, roOf, aop, aBin, ev, upd, Nat.reduceEqDiff, ↓reduceIte, aBinI, Option.map_some, ↓roK_ok, ty2, ty0, AV.cells.eq_2, List.length_cons, List.length_nil, Nat.zero_add, Nat.reduceMul, Nat.reducePow, Nat.reduceLeDiff, slv, List.reduceReplicate, ofV, List.map_cons, List.map_nil, aFillEs, AV.isEl.eq_2, Nat.reduceLT, and_self, List.set_cons_zero, aop2, hap, List.size_toArray, Nat.reduceAdd, List.range_succ, List.range_zero, List.nil_append, List.cons_append, true_and]
        refine ⟨apC_of (by rw [List.length_map]; omega) (by decide), ?_⟩
        refine FW.loopInv (fun m ts H => ∃ (w : Int) (es : List Int) (sl : AV), Lft m w ∧ es ++ (wordL (i : Int) m w ++ upto (fun i => wordL i 64 (ws.getD i.toNat 0)) ((i : Int) + 1) l) = listL ws ∧ Own H sl (es.map IA) ∧
          ts 4 = sl ∧ ts 5 = I 0 ∧ ts 6 = I (i : Int) ∧ ts 7 = U w ∧ ts 13 = .isl (ws.map U) ∧ ts 14 = I ws.length ∧ ts 15 = I (i : Int)) 63
          ⟨dropV w, es ++ [IntKind.i64.wrap (IntKind.i64.wrap (64 * (i : Int)) + tzV w)], .sl (H.length + 1) 0 ((es.map IA).length + 1) ((es.map IA).length + 1), (Lft.start hiu).drop hw0,
            by rw [← hes]; simp [wordL, hw0], apI, rfl, t5, rfl, rfl, t13, t14, t15⟩ ?_
        clear hgd hiu hes hw0 hown t4 t5 t13 t14 t15 hap hel
        rintro m ihm ts H ⟨w, es, sl, hlf, hes, hown, t4, t5, t6, t7, t13, t14, t15⟩
        refine FW.goto rfl ?_
        by_cases hw0 : w = 0
        · subst hw0
          refine walk hmix T23_ok [] 3000 0 (by kernel_rfl) ?_
          simp (maxSteps := 2000000) only [T23, T22, T21, T20, T19, T18, T17, T16, T13, T12, T11, T10, T9, T8, T7, T6, T5, T4, T3, T2, T1, T0, kw0, List.size_toArray, List.length_cons, List.length_nil, Nat.zero_add, Nat.reduceAdd, List.range_succ, List.range_zero, List.nil_append, List.cons_append, List.getElem?_toArray, List.getElem?_cons_zero, Go.Ab.put, ↓opK_some, ↓guK_none, kw1, roOf, aop, ev, t7, ↓roK_ok, List.getElem?_cons_succ, aBin, upd, ↓reduceIte, ofV, aBinI, bne_eq_decide', ne_eq, not_true_eq_false, decide_false, Option.map_some, ↓gdK_false, Nat.reduceEqDiff, t15, hi1, true_and]
          have hz : wordL (i : Int) m 0 = [] := by cases m <;> simp [wordL]
          rw [hz] at hes
          exact ih l (by omega) _ _ ⟨i + 1, es, sl, by omega, by simpa using hes, hown, t4, t5, t13, by rw [List.length_map]; exact t14, rfl⟩
        · obtain ⟨m, rfl⟩ : ∃ m', m = m' + 1 := ⟨m - 1, by
            have : m ≠ 0 := fun e => hw0 (by subst e; exact hlf.zero)
            omega⟩
          refine walk hmix T23_ok [] 3000 0 (by kernel_rfl) ?_
          simp (maxSteps := 2000000) only [T23, T22, T21, T20, T19, T18, T17, T16, T13, T12, T11, T10, T9, T8, T7, T6, T5, T4, T3, T2, T1, T0, kw0, List.size_toArray, List.length_cons, List.length_nil, Nat.zero_add, Nat.reduceAdd, List.range_succ, List.range_zero, List.nil_append, List.cons_append, List.getElem?_toArray, List.getElem?_cons_zero, Go.Ab.put, ↓opK_some, ↓guK_none, kw1, roOf, aop, ev, t7, ↓roK_ok, List.getElem?_cons_succ, aBin, upd, ↓reduceIte, ofV, aBinI, bne_eq_decide', ne_eq, hw0, not_false_eq_true, decide_true, Option.map_some, ↓gdK_true, Nat.reduceEqDiff, t4, t6, tcall, Tab.ext, Tab.nil, List.map_cons, List.map_nil, ↓roK_call, true_and]
          refine AC.pur (tzV_pur w) ?_
          have hap := fun v => aApp1 (P := Tryz.prog) un64 un64 ze3 rfl by3 hown v
          have hel := len_le_of_append hes
          refine walk hmix T23_ok [] 3000 0 (by kernel_rfl) ?_
          simp (maxSteps := 2000000) only [T23, T22, T21, T20, T19, T18, T17, T16, T13, T12, T11, T10, T9, T8, T7, T6, T5, T4, T3, T2, T1, T0, kw0, List.getElem?_toArray, List.getElem?_cons_succ, List.getElem?_cons_zero, Go.Ab.put, ↓opK_some, ↓guK_none, kw1, roOf, aop, aBin, ev, upd, Nat.reduceEqDiff, ↓reduceIte, aBinI, Option.map_some, ↓roK_ok, ty2, ty0, AV.cells.eq_2, List.length_cons, List.length_nil, Nat.zero_add, Nat.reduceMul, Nat.reducePow, Nat.reduceLeDiff, slv, List.reduceReplicate, ofV, List.map_cons, List.map_nil, aFillEs, AV.isEl.eq_2, Nat.reduceLT, and_self, List.set_cons_zero, aop2, hap, List.size_toArray, Nat.reduceAdd, List.range_succ, List.range_zero, List.nil_append, List.cons_append, t7, true_and]
          refine ⟨apC_of (by rw [List.length_map]; omega) (by decide), ?_⟩
          exact ihm m (by omega) _ _ ⟨dropV w, es ++ [IntKind.i64.wrap (IntKind.i64.wrap (64 * (i : Int)) + tzV w)], .sl (H.length + 1) 0 ((es.map IA).length + 1) ((es.map IA).length + 1), hlf.drop hw0,
            by rw [← hes]; simp [wordL, hw0], apI, rfl, t5, t6, rfl, t13, t14, t15⟩
    · have hd1 : decide ((i : Int) < (ws.length : Int)) = false := by simp; omega
      have hl : l = 0 := by omega
      subst hl
      refine walk hmix T23_ok [] 3000 0 (by kernel_rfl) ?_
      simp (maxSteps := 2000000) only [T23, T22, T21, T20, T19, T18, T17, T16, T13, T12, T11, T10, T9, T8, T7, T6, T5, T4, T3, T2, T1, T0, kw0, List.size_toArray, List.length_cons, List.length_nil, Nat.zero_add, List.range_succ, List.range_zero, List.nil_append, List.getElem?_toArray, List.getElem?_cons_zero, Go.Ab.put, ↓opK_some, ↓guK_none, kw1, roOf, aop, aBin, ev, t15, t14, aBinI, ↓reduceIte, hd1, Option.map_some, ↓roK_ok, upd, ↓gdK_false, exitTo, beq_self_eq_true, reduceCtorEq, or_false, Nat.reduceEqDiff, t4, t5, ↓exK_some, or_true, true_and]
      simp only [upto, List.append_nil] at hes
      subst hes
      obtain ⟨m', hm'⟩ := hown.done2 (v := I 0) (purL_map IA _ (fun _ => rfl)) rfl
      exact ⟨_, rfl, m', hm'⟩
  · refine ⟨[], e, by simp, ?_⟩
    refine Pur.of_alone ggp (by simp [AV.purL, AV.pur, hpu]) (AC.of_body (c := (Tryz.f46.body.getD .skip)) Tryz.func46 rfl (by decide) ok46 ro46 (by exact (by decide : 2 ≤ 35)) ?_)
    refine walk hmix T23_ok [] 3000 0 dr46 ?_
    delta Tryz.f46
    simp only [Option.getD_some]
    simp (maxSteps := 2000000) only [T23, T22, T21, T20, T19, T18, T17, T16, T13, T12, T11, T10, T9, T8, T7, T6, T5, T4, T3, T2, T1, T0, resA, resL, resVar, Option.some.injEq, List.map_nil, kw0, List.size_toArray, List.length_cons, List.length_nil, Nat.zero_add, Nat.reduceAdd, List.range_succ, List.range_zero, List.nil_append, List.cons_append, List.getElem?_toArray, List.getElem?_cons_zero, Go.Ab.put, ↓opK_some, ↓guK_none, kw1, roOf, aop, ev, ofV, ↓roK_ok, List.getElem?_cons_succ, upd, reduceCtorEq, ↓reduceIte, argTs, List.getD_cons_zero, Nat.reduceEqDiff, List.getD_cons_succ, tcall, Tab.ext, Tab.nil, List.map_cons, ↓roK_call, true_and]
    refine AC.pur p ?_
    refine walk hmix T23_ok [] 3000 0 (by kernel_rfl) ?_
    simp (maxSteps := 2000000) only [T23, T22, T21, T20, T19, T18, T17, T16, T13, T12, T11, T10, T9, T8, T7, T6, T5, T4, T3, T2, T1, T0, kw0, List.getElem?_toArray, List.getElem?_cons_succ, List.getElem?_cons_zero, Go.Ab.put, ↓opK_some, ↓guK_none, kw1, roOf, aop, ev, upd, ↓reduceIte, ↓roK_ok, List.size_toArray, List.length_cons, List.length_nil, Nat.zero_add, Nat.reduceAdd, List.range_succ, List.range_zero, List.nil_append, List.cons_append, aBin, ofV, aBinI, bne_eq_decide', ne_eq, he, not_false_eq_true, decide_true, Option.map_some, ↓gdK_true, reduceCtorEq, or_true, Nat.reduceEqDiff, true_and]
    exact ⟨_, rfl, done_pur rfl rfl⟩
end Go.Ab.Pd

set_option linter.unusedSimpArgs false
set_option linter.unusedVariables false
namespace Go.Ab.Pd
open Go.Proofs
theorem ok45 : codeOk 35 (Tryz.f45.body.getD .skip) = true := by kernel_rfl
theorem ro45 : resOk 35 Tryz.f45.results = true := by kernel_rfl
theorem dr45 : todoDr [] [.code (Tryz.f45.body.getD .skip)] = true := by kernel_rfl
set_option maxHeartbeats 4000000 in
set_option maxRecDepth 400000 in
theorem ones_ex (w : Int) : ∃ n, Pur Tryz.prog GG 45 [U w] (I n) := by
  apply Exists.intro
  refine Pur.of_alone ggp rfl (AC.of_body (c := (Tryz.f45.body.getD .skip)) Tryz.func45 rfl (by decide) ok45 ro45 (by exact (by decide : 1 ≤ 35)) ?_)
  refine walk hmix T23_ok [] 3000 0 dr45 ?_
  delta Tryz.f45
  simp only [Option.getD_some]
  simp (maxSteps := 2000000) only [T23, T22, T21, T20, T19, T18, T17, T16, T13, T12, T11, T10, T9, T8, T7, T6, T5, T4, T3, T2, T1, T0, resA, resL, resVar, Option.some.injEq, kw0, List.size_toArray, List.length_cons, List.length_nil, Nat.zero_add, List.range_succ, List.range_zero, List.nil_append, List.getElem?_toArray, List.getElem?_cons_zero, Go.Ab.put, ↓opK_some, ↓guK_none, kw1, roOf, aop, ev, ofV, ↓roK_ok, Nat.reduceAdd, List.cons_append, upd, reduceCtorEq, ↓reduceIte, argTs, List.getD_cons_zero, List.getElem?_cons_succ, aBin, aBinI, Int.reduceLE, Int.toNat_one, Option.map_some, Nat.reduceEqDiff, Int.reduceToNat, ty1, ty0, or_true, true_and]
  exact ⟨_, rfl, done_pur rfl rfl⟩
noncomputable def onesV (w : Int) : Int := Classical.choose (ones_ex w)
theorem onesV_pur (w : Int) : Pur Tryz.prog GG 45 [U w] (I (onesV w)) := Classical.choose_spec (ones_ex w)
noncomputable def addV (acc w : Int) : Int := IntKind.i64.wrap (acc + onesV w)
theorem ok32 : codeOk 24 (Tryz.f32.body.getD .skip) = true := by kernel_rfl
theorem ro32 : resOk 24 Tryz.f32.results = true := by kernel_rfl
theorem dr32 : todoDr [] [.code (Tryz.f32.body.getD .skip)] = true := by kernel_rfl
set_option maxHeartbeats 4000000 in
set_option maxRecDepth 400000 in
theorem many_ex (n : Int) {s : AV} (q : IsSet s) : ∃ (m e : Int), Pur Tryz.prog GG 32 [I n, s] (.tup [I m, I e]) := by
  obtain ⟨e, p, r⟩ := check_ex q n
  have hpu := q.pur
  by_cases he : e = 0
  · obtain ⟨hn, ws, hw, rfl, lw⟩ := r he
    subst he
    refine ⟨ws.foldl addV 0, 0, ?_⟩
    refine Pur.of_alone ggp (by simp [AV.purL, AV.pur, purL_map U _ (fun _ => rfl)]) (AC.of_body (c := (Tryz.f32.body.getD .skip)) Tryz.func32 rfl (by decide) ok32 ro32 (by exact (by decide : 2 ≤ 24)) ?_)
    refine walk hmix T23_ok [] 3000 0 dr32 ?_
    delta Tryz.f32
    simp only [Option.getD_some]
    simp (maxSteps := 2000000) only [T23, T22, T21, T20, T19, T18, T17, T16, T13, T12, T11, T10, T9, T8, T7, T6, T5, T4, T3, T2, T1, T0, resA, resL, resVar, Option.some.injEq, kw0, List.size_toArray, List.length_cons, List.length_nil, Nat.zero_add, Nat.reduceAdd, List.range_succ, List.range_zero, List.nil_append, List.cons_append, List.getElem?_toArray, List.getElem?_cons_zero, Go.Ab.put, ↓opK_some, ↓guK_none, kw1, roOf, aop, ev, ofV, ↓roK_ok, List.getElem?_cons_succ, upd, reduceCtorEq, ↓reduceIte, argTs, List.getD_cons_zero, Nat.reduceEqDiff, List.getD_cons_succ, tcall, Tab.ext, Tab.nil, List.map_cons, List.map_nil, ↓roK_call, true_and]
    refine AC.pur p ?_
    refine walk hmix T23_ok [] 3000 0 (by kernel_rfl) ?_
    simp (maxSteps := 2000000) only [T23, T22, T21, T20, T19, T18, T17, T16, T13, T12, T11, T10, T9, T8, T7, T6, T5, T4, T3, T2, T1, T0, kw0, List.getElem?_toArray, List.getElem?_cons_succ, List.getElem?_cons_zero, Go.Ab.put, ↓opK_some, ↓guK_none, kw1, roOf, aop, ev, upd, ↓reduceIte, ↓roK_ok, List.size_toArray, List.length_cons, List.length_nil, Nat.zero_add, Nat.reduceAdd, List.range_succ, List.range_zero, List.nil_append, List.cons_append, aBin, ofV, aBinI, bne_eq_decide', ne_eq, not_true_eq_false, decide_false, Option.map_some, ↓gdK_false, Nat.reduceEqDiff, argTs, List.getD_cons_succ, List.getD_cons_zero, ty1, true_and]
    refine FW.loopInv (fun l ts H => ∃ (i : Nat) (acc : Int), i + l = ws.length ∧ (ws.drop i).foldl addV acc = ws.foldl addV 0 ∧ ts 4 = I acc ∧ ts 5 = I 0 ∧ ts 13 = .isl (ws.map U) ∧ ts 14 = I (ws.map U).length ∧ ts 15 = I (i : Int)) ws.length
      ⟨0, 0, by omega, rfl, rfl, rfl, rfl, rfl, rfl⟩ ?_
    rintro l ih ts H ⟨i, acc, hi, hes, t4, t5, t13, t14, t15⟩
    rw [List.length_map] at t14
    refine FW.inLoop ?_
    by_cases hlt : i < ws.length
    · have hd1 : decide ((i : Int) < (ws.length : Int)) = true := by simp [hlt]
      have hgd := getD_map U ws 0 hlt
      obtain ⟨l, rfl⟩ : ∃ l', l = l' + 1 := ⟨l - 1, by omega⟩
      rw [drop_cons 0 hlt] at hes
      generalize ws.getD i 0 = w at hgd hes
      refine walk hmix T23_ok [] 3000 0 (by kernel_rfl) ?_
      simp (maxSteps := 2000000) only [T23, T22, T21, T20, T19, T18, T17, T16, T13, T12, T11, T10, T9, T8, T7, T6, T5, T4, T3, T2, T1, T0, kw0, List.size_toArray, List.length_cons, List.length_nil, Nat.zero_add, List.range_succ, List.range_zero, List.nil_append, List.getElem?_toArray, List.getElem?_cons_zero, Go.Ab.put, ↓opK_some, ↓guK_none, kw1, roOf, aop, aBin, ev, t15, t14, aBinI, ↓reduceIte, hd1, Option.map_some, ↓roK_ok, upd, ↓gdK_true, Nat.reduceAdd, List.cons_append, aInt, Nat.reduceEqDiff, t13, ty1, List.length_map, Int.toNat_natCast, hgd, AV.cells.eq_2, and_true, List.getElem?_cons_succ, aload, rdCells, Nat.le_refl, List.drop_zero, List.take_succ_cons, List.take_nil, t4, tcall, Tab.ext, Tab.nil, List.map_cons, List.map_nil, ↓roK_call, true_and]
      refine ⟨by omega, ?_⟩
      refine AC.pur (onesV_pur w) ?_
      refine walk hmix T23_ok [] 3000 0 (by kernel_rfl) ?_
      simp (maxSteps := 2000000) only [T23, T22, T21, T20, T19, T18, T17, T16, T13, T12, T11, T10, T9, T8, T7, T6, T5, T4, T3, T2, T1, T0, kw0, List.getElem?_toArray, List.getElem?_cons_succ, List.getElem?_cons_zero, Go.Ab.put, ↓opK_some, ↓guK_none, kw1, roOf, aop, aBin, ev, upd, Nat.reduceEqDiff, ↓reduceIte, aBinI, Option.map_some, ↓roK_ok, List.size_toArray, List.length_cons, List.length_nil, Nat.zero_add, Nat.reduceAdd, List.range_succ, List.range_zero, List.nil_append, List.cons_append, t15, ofV, true_and]
      rw [wrapL (n := (i : Int) + 1) (by omega) (by omega)]
      exact ih l (by omega) _ _ ⟨i + 1, addV acc w, by omega, by rw [← hes]; rfl, rfl, t5, t13, by rw [List.length_map]; exact t14, rfl⟩
    · have hd1 : decide ((i : Int) < (ws.length : Int)) = false := by simp; omega
      refine walk hmix T23_ok [] 3000 0 (by kernel_rfl) ?_
      simp (maxSteps := 2000000) only [T23, T22, T21, T20, T19, T18, T17, T16, T13, T12, T11, T10, T9, T8, T7, T6, T5, T4, T3, T2, T1, T0, kw0, List.size_toArray, List.length_cons, List.length_nil, Nat.zero_add, List.range_succ, List.range_zero, List.nil_append, List.getElem?_toArray, List.getElem?_cons_zero, Go.Ab.put, ↓opK_some, ↓guK_none, kw1, roOf, aop, aBin, ev, t15, t14, aBinI, ↓reduceIte, hd1, Option.map_some, ↓roK_ok, upd, ↓gdK_false, exitTo, beq_self_eq_true, reduceCtorEq, or_false, Nat.reduceEqDiff, t4, t5, ↓exK_some, or_true, true_and]
      rw [List.drop_eq_nil_of_le (by omega)] at hes
      have hes' : acc = ws.foldl addV 0 := hes
      exact ⟨_, rfl, done_pur rfl (by rw [hes'])⟩
  · refine ⟨0, e, ?_⟩
    refine Pur.of_alone ggp (by simp [AV.purL, AV.pur, hpu]) (AC.of_body (c := (Tryz.f32.body.getD .skip)) Tryz.func32 rfl (by decide) ok32 ro32 (by exact (by decide : 2 ≤ 24)) ?_)
    refine walk hmix T23_ok [] 3000 0 dr32 ?_
    delta Tryz.f32
    simp only [Option.getD_some]
    simp (maxSteps := 2000000) only [T23, T22, T21, T20, T19, T18, T17, T16, T13, T12, T11, T10, T9, T8, T7, T6, T5, T4, T3, T2, T1, T0, resA, resL, resVar, Option.some.injEq, kw0, List.size_toArray, List.length_cons, List.length_nil, Nat.zero_add, Nat.reduceAdd, List.range_succ, List.range_zero, List.nil_append, List.cons_append, List.getElem?_toArray, List.getElem?_cons_zero, Go.Ab.put, ↓opK_some, ↓guK_none, kw1, roOf, aop, ev, ofV, ↓roK_ok, List.getElem?_cons_succ, upd, reduceCtorEq, ↓reduceIte, argTs, List.getD_cons_zero, Nat.reduceEqDiff, List.getD_cons_succ, tcall, Tab.ext, Tab.nil, List.map_cons, List.map_nil, ↓roK_call, true_and]
    refine AC.pur p ?_
    refine walk hmix T23_ok [] 3000 0 (by kernel_rfl) ?_
    simp (maxSteps := 2000000) only [T23, T22, T21, T20, T19, T18, T17, T16, T13, T12, T11, T10, T9, T8, T7, T6, T5, T4, T3, T2, T1, T0, kw0, List.getElem?_toArray, List.getElem?_cons_succ, List.getElem?_cons_zero, Go.Ab.put, ↓opK_some, ↓guK_none, kw1, roOf, aop, ev, upd, ↓reduceIte, ↓roK_ok, List.size_toArray, List.length_cons, List.length_nil, Nat.zero_add, Nat.reduceAdd, List.range_succ, List.range_zero, List.nil_append, List.cons_append, aBin, ofV, aBinI, bne_eq_decide', ne_eq, he, not_false_eq_true, decide_true, Option.map_some, ↓gdK_true, reduceCtorEq, or_true, Nat.reduceEqDiff, true_and]
    exact ⟨_, rfl, done_pur rfl rfl⟩
theorem ok48 : codeOk 34 (Tryz.f48.body.getD .skip) = true := by kernel_rfl
theorem ro48 : resOk 34 Tryz.f48.results = true := by kernel_rfl
theorem dr48 : todoDr [] [.code (Tryz.f48.body.getD .skip)] = true := by kernel_rfl
set_option maxHeartbeats 4000000 in
set_option maxRecDepth 400000 in
theorem has_ex (n : Int) {s : AV} (q : IsSet s) (k : Int) : ∃ (b : Bool) (e : Int), Pur Tryz.prog GG 48 [I n, s, I k] (.tup [B b, I e]) := by
  obtain ⟨e, p, r⟩ := check_ex q n
  have hpu := q.pur
  by_cases he : e = 0
  · obtain ⟨hn, ws, hw, rfl, lw⟩ := r he
    subst he
    by_cases h0 : 0 ≤ k
    · by_cases h1 : k < n
      · have hkq : (k.tdiv 64).toNat < ws.length := by have := Int.tdiv_eq_ediv_of_nonneg (b := 64) h0; omega
        have hkw := wrapL (n := k.tdiv 64) (by have := Int.tdiv_eq_ediv_of_nonneg (b := 64) h0; omega) (by have := Int.tdiv_eq_ediv_of_nonneg (b := 64) h0; omega)
        have hkm := Int.tmod_nonneg 64 h0
        have hkd := Int.tdiv_nonneg (b := 64) h0 (by decide)
        have hgd := getD_map U ws 0 hkq
        have d0 : decide (0 ≤ k) = true := decide_eq_true h0
        have d1 : decide (k < n) = true := decide_eq_true h1
        apply Exists.intro
        refine ⟨0, ?_⟩
        refine Pur.of_alone ggp (by simp [AV.purL, AV.pur, purL_map U _ (fun _ => rfl)]) (AC.of_body (c := (Tryz.f48.body.getD .skip)) Tryz.func48 rfl (by decide) ok48 ro48 (by exact (by decide : 3 ≤ 34)) ?_)
        refine walk hmix T23_ok [] 3000 0 dr48 ?_
        delta Tryz.f48
        simp only [Option.getD_some]
        simp (maxSteps := 2000000) only [T23, T22, T21, T20, T19, T18, T17, T16, T13, T12, T11, T10, T9, T8, T7, T6, T5, T4, T3, T2, T1, T0, resA, resL, resVar, Option.some.injEq, kw0, List.size_toArray, List.length_cons, List.length_nil, Nat.zero_add, Nat.reduceAdd, List.range_succ, List.range_zero, List.nil_append, List.cons_append, List.getElem?_toArray, List.getElem?_cons_zero, Go.Ab.put, ↓opK_some, ↓guK_none, kw1, roOf, aop, ev, ofV, ↓roK_ok, List.getElem?_cons_succ, upd, reduceCtorEq, ↓reduceIte, argTs, List.getD_cons_zero, Nat.reduceEqDiff, List.getD_cons_succ, tcall, Tab.ext, Tab.nil, List.map_cons, List.map_nil, ↓roK_call, true_and]
        refine AC.pur p ?_
        refine walk hmix T23_ok [] 3000 0 (by kernel_rfl) ?_
        simp (maxSteps := 2000000) only [T23, T22, T21, T20, T19, T18, T17, T16, T13, T12, T11, T10, T9, T8, T7, T6, T5, T4, T3, T2, T1, T0, kw0, List.getElem?_toArray, List.getElem?_cons_succ, List.getElem?_cons_zero, Go.Ab.put, ↓opK_some, ↓guK_none, kw1, roOf, aop, ev, upd, ↓reduceIte, ↓roK_ok, List.size_toArray, List.length_cons, List.length_nil, Nat.zero_add, Nat.reduceAdd, List.range_succ, List.range_zero, List.nil_append, List.cons_append, aBin, ofV, aBinI, bne_eq_decide', ne_eq, not_true_eq_false, decide_false, Option.map_some, ↓gdK_false, Nat.reduceEqDiff, argTs, List.getD_cons_succ, List.getD_cons_zero, d0, ↓guK_some, Option.bind_some, ↓tmK_some, ↓gsK_true, beq_self_eq_true, reduceCtorEq, d1, pickA, cond_true, Int.reduceEq, not_false_eq_true, hkw, aInt, ty1, List.length_map, hgd, AV.cells.eq_2, and_true, aload, rdCells, Nat.le_refl, List.drop_zero, List.take_succ_cons, List.take_nil, beq_eq_decide', or_true, true_and]
        exact ⟨by omega, hkm, _, rfl, done_pur rfl rfl⟩
      · have d0 : decide (0 ≤ k) = true := decide_eq_true h0
        have d1 : decide (k < n) = false := decide_eq_false h1
        refine ⟨false, 0, ?_⟩
        refine Pur.of_alone ggp (by simp [AV.purL, AV.pur, purL_map U _ (fun _ => rfl)]) (AC.of_body (c := (Tryz.f48.body.getD .skip)) Tryz.func48 rfl (by decide) ok48 ro48 (by exact (by decide : 3 ≤ 34)) ?_)
        refine walk hmix T23_ok [] 3000 0 dr48 ?_
        delta Tryz.f48
        simp only [Option.getD_some]
        simp (maxSteps := 2000000) only [T23, T22, T21, T20, T19, T18, T17, T16, T13, T12, T11, T10, T9, T8, T7, T6, T5, T4, T3, T2, T1, T0, resA, resL, resVar, Option.some.injEq, kw0, List.size_toArray, List.length_cons, List.length_nil, Nat.zero_add, Nat.reduceAdd, List.range_succ, List.range_zero, List.nil_append, List.cons_append, List.getElem?_toArray, List.getElem?_cons_zero, Go.Ab.put, ↓opK_some, ↓guK_none, kw1, roOf, aop, ev, ofV, ↓roK_ok, List.getElem?_cons_succ, upd, reduceCtorEq, ↓reduceIte, argTs, List.getD_cons_zero, Nat.reduceEqDiff, List.getD_cons_succ, tcall, Tab.ext, Tab.nil, List.map_cons, List.map_nil, ↓roK_call, true_and]
        refine AC.pur p ?_
        refine walk hmix T23_ok [] 3000 0 (by kernel_rfl) ?_
        simp (maxSteps := 2000000) only [T23, T22, T21, T20, T19, T18, T17, T16, T13, T12, T11, T10, T9, T8, T7, T6, T5, T4, T3, T2, T1, T0, kw0, List.getElem?_toArray, List.getElem?_cons_succ, List.getElem?_cons_zero, Go.Ab.put, ↓opK_some, ↓guK_none, kw1, roOf, aop, ev, upd, ↓reduceIte, ↓roK_ok, List.size_toArray, List.length_cons, List.length_nil, Nat.zero_add, Nat.reduceAdd, List.range_succ, List.range_zero, List.nil_append, List.cons_append, aBin, ofV, aBinI, bne_eq_decide', ne_eq, not_true_eq_false, decide_false, Option.map_some, ↓gdK_false, Nat.reduceEqDiff, argTs, List.getD_cons_succ, List.getD_cons_zero, d0, ↓guK_some, Option.bind_some, ↓tmK_some, ↓gsK_true, beq_self_eq_true, reduceCtorEq, d1, pickA, cond_true, ↓gsK_false, cond_false, or_true, true_and]
        exact ⟨_, rfl, done_pur rfl rfl⟩
    · have d0 : decide (0 ≤ k) = false := decide_eq_false h0
      have d1 : decide (0 ≤ k) = false := d0
      refine ⟨false, 0, ?_⟩
      refine Pur.of_alone ggp (by simp [AV.purL, AV.pur, purL_map U _ (fun _ => rfl)]) (AC.of_body (c := (Tryz.f48.body.getD .skip)) Tryz.func48 rfl (by decide) ok48 ro48 (by exact (by decide : 3 ≤ 34)) ?_)
      refine walk hmix T23_ok [] 3000 0 dr48 ?_
      delta Tryz.f48
      simp only [Option.getD_some]
      simp (maxSteps := 2000000) only [T23, T22, T21, T20, T19, T18, T17, T16, T13, T12, T11, T10, T9, T8, T7, T6, T5, T4, T3, T2, T1, T0, resA, resL, resVar, Option.some.injEq, kw0, List.size_toArray, List.length_cons, List.length_nil, Nat.zero_add, Nat.reduceAdd, List.range_succ, List.range_zero, List.nil_append, List.cons_append, List.getElem?_toArray, List.getElem?_cons_zero, Go.Ab.put, ↓opK_some, ↓guK_none, kw1, roOf, aop, ev, ofV, ↓roK_ok, List.getElem?_cons_succ, upd, reduceCtorEq, ↓reduceIte, argTs, List.getD_cons_zero, Nat.reduceEqDiff, List.getD_cons_succ, tcall, Tab.ext, Tab.nil, List.map_cons, List.map_nil, ↓roK_call, true_and]
      refine AC.pur p ?_
      refine walk hmix T23_ok [] 3000 0 (by kernel_rfl) ?_
      simp (maxSteps := 2000000) only [T23, T22, T21, T20, T19, T18, T17, T16, T13, T12, T11, T10, T9, T8, T7, T6, T5, T4, T3, T2, T1, T0, kw0, List.getElem?_toArray, List.getElem?_cons_succ, List.getElem?_cons_zero, Go.Ab.put, ↓opK_some, ↓guK_none, kw1, roOf, aop, ev, upd, ↓reduceIte, ↓roK_ok, List.size_toArray, List.length_cons, List.length_nil, Nat.zero_add, Nat.reduceAdd, List.range_succ, List.range_zero, List.nil_append, List.cons_append, aBin, ofV, aBinI, bne_eq_decide', ne_eq, not_true_eq_false, decide_false, Option.map_some, ↓gdK_false, Nat.reduceEqDiff, argTs, List.getD_cons_succ, List.getD_cons_zero, d0, ↓guK_some, Option.bind_some, ↓tmK_some, ↓gsK_false, pickA, cond_false, reduceCtorEq, or_true, true_and]
      exact ⟨_, rfl, done_pur rfl rfl⟩
  · refine ⟨false, e, ?_⟩
    refine Pur.of_alone ggp (by simp [AV.purL, AV.pur, hpu]) (AC.of_body (c := (Tryz.f48.body.getD .skip)) Tryz.func48 rfl (by decide) ok48 ro48 (by exact (by decide : 3 ≤ 34)) ?_)
    refine walk hmix T23_ok [] 3000 0 dr48 ?_
    delta Tryz.f48
    simp only [Option.getD_some]
    simp (maxSteps := 2000000) only [T23, T22, T21, T20, T19, T18, T17, T16, T13, T12, T11, T10, T9, T8, T7, T6, T5, T4, T3, T2, T1, T0, resA, resL, resVar, Option.some.injEq, kw0, List.size_toArray, List.length_cons, List.length_nil, Nat.zero_add, Nat.reduceAdd, List.range_succ, List.range_zero, List.nil_append, List.cons_append, List.getElem?_toArray, List.getElem?_cons_zero, Go.Ab.put, ↓opK_some, ↓guK_none, kw1, roOf, aop, ev, ofV, ↓roK_ok, List.getElem?_cons_succ, upd, reduceCtorEq, ↓reduceIte, argTs, List.getD_cons_zero, Nat.reduceEqDiff, List.getD_cons_succ, tcall, Tab.ext, Tab.nil, List.map_cons, List.map_nil, ↓roK_call, true_and]
    refine AC.pur p ?_
    refine walk hmix T23_ok [] 3000 0 (by kernel_rfl) ?_
    simp (maxSteps := 2000000) only [T23, T22, T21, T20, T19, T18, T17, T16, T13, T12, T11, T10, T9, T8, T7, T6, T5, T4, T3, T2, T1, T0, kw0, List.getElem?_toArray, List.getElem?_cons_succ, List.getElem?_cons_zero, Go.Ab.put, ↓opK_some, ↓guK_none, kw1, roOf, aop, ev, upd, ↓reduceIte, ↓roK_ok, List.size_toArray, List.length_cons, List.length_nil, Nat.zero_add, Nat.reduceAdd, List.range_succ, List.range_zero, List.nil_append, List.cons_append, aBin, ofV, aBinI, bne_eq_decide', ne_eq, he, not_false_eq_true, decide_true, Option.map_some, ↓gdK_true, Nat.reduceEqDiff, reduceCtorEq, or_true, true_and]
    exact ⟨_, rfl, done_pur rfl rfl⟩
end Go.Ab.Pd

set_option linter.unusedSimpArgs false
set_option linter.unusedVariables false
namespace Go.Ab.Pd
open Go.Proofs
theorem ok47 : codeOk 6 (Tryz.f47.body.getD .skip) = true := by kernel_rfl
theorem ro47 : resOk 6 Tryz.f47.results = true := by kernel_rfl
theorem dr47 : todoDr [] [.code (Tryz.f47.body.getD .skip)] = true := by kernel_rfl
set_option maxHeartbeats 4000000 in
set_option maxRecDepth 400000 in
theorem sides_pur (a b c m : Int) : Pur Tryz.prog GG 47 [.agg [I a, I b, I c], I m] (.fn 67 [] [.iptr [I a, I b, I c] 0, .iptr [I m] 0]) := by
  refine Pur.of_alone ggp (by first | rfl | (simp [AV.purL, AV.pur]; done) | (simp [AV.purL, AV.pur, frS_pur (purL_map IA _ (fun _ => rfl)), purL_map U _ (fun _ => rfl)]; done) | (simp [AV.purL, AV.pur, *]; done)) (AC.of_body (c := (Tryz.f47.body.getD .skip)) Tryz.func47 rfl (by decide) ok47 ro47 (by exact (by decide : 2 ≤ 6)) ?_)
  refine walk hmix T23_ok [] 3000 0 dr47 ?_
  delta Tryz.f47
  simp only [Option.getD_some]
  simp (maxSteps := 2000000) only [T23, T22, T21, T20, T19, T18, T17, T16, T13, T12, T11, T10, T9, T8, T7, T6, T5, T4, T3, T2, T1, T0, resA, resL, resVar, Option.some.injEq, kw0, List.size_toArray, List.length_cons, List.length_nil, Nat.zero_add, Nat.reduceAdd, List.range_succ, List.range_zero, List.nil_append, List.cons_append, List.getElem?_toArray, List.getElem?_cons_zero, Go.Ab.put, ↓opK_some, ↓guK_none, kw1, roOf, aop, ev, argTs, List.getD_cons_zero, AV.isEl.eq_2, ↓reduceIte, AV.cells.eq_1, ↓roK_ok, List.getElem?_cons_succ, upd, Nat.reduceEqDiff, List.getD_cons_succ, AV.cells.eq_2, ofV, List.map_nil, List.map_cons, reduceCtorEq, or_true, true_and]
  exact ⟨_, rfl, 3, rfl⟩
def g47 : List AV → Option (Prop × AV)
  | [.agg [(.c (.int .i64 a)), (.c (.int .i64 b)), (.c (.int .i64 c))], (.c (.int .i64 m))] => some (True, .fn 67 [] [.iptr [I a, I b, I c] 0, .iptr [I m] 0])
  | _ => none
theorem g47_ok : ∀ args p, g47 args = some p → p.1 → Pur Tryz.prog GG 47 args p.2 := by
  intro args p hp hc
  unfold g47 at hp
  split at hp
  · cases hp
    exact sides_pur _ _ _ _
  · cases hp
def T24 : Tab := Tab.ext T23 47 g47
theorem T24_ok : TOk Tryz.prog GG T24 := TOk.ext T23_ok g47_ok
def sideL (a b c m k : Int) : List Int := if dimV a b c k = 1 then [] else [stV a b c m k 1, stV a b c m k (-1)]
def sidesL (a b c m : Int) : List Int := upto (sideL a b c m) 0 3
theorem ok67 : codeOk 35 (Tryz.f67.body.getD .skip) = true := by kernel_rfl
theorem ro67 : resOk 35 Tryz.f67.results = true := by kernel_rfl
theorem dr67 : todoDr [] [.code (Tryz.f67.body.getD .skip)] = true := by kernel_rfl
set_option maxHeartbeats 8000000 in
set_option maxRecDepth 400000 in
theorem sides1 {a b c m : Int} {id : Nat} {H : List AO} {K : AV → List AO → Prop} (h : afterL Tryz.prog GG id K (sidesL a b c m) H) :
    AC Tryz.prog GG 67 [.yld id, .iptr [I a, I b, I c] 0, .iptr [I m] 0] H K := by
  refine AC.of_body (c := (Tryz.f67.body.getD .skip)) Tryz.func67 rfl (by decide) ok67 ro67 (by exact (by decide : 3 ≤ 35)) ?_
  refine walk hmix T24_ok [] 3000 0 dr67 ?_
  delta Tryz.f67
  simp only [Option.getD_some]
  simp (maxSteps := 2000000) only [T24, T23, T22, T21, T20, T19, T18, T17, T16, T13, T12, T11, T10, T9, T8, T7, T6, T5, T4, T3, T2, T1, T0, Int.reduceNeg, resA, resL, Option.some.injEq, kw0, List.size_toArray, List.length_cons, List.length_nil, Nat.zero_add, Nat.reduceAdd, List.range_succ, List.range_zero, List.nil_append, List.cons_append, List.getElem?_toArray, List.getElem?_cons_zero, Go.Ab.put, ↓opK_some, ↓guK_none, kw1, roOf, aop, aload, ty0, rdCells, ev, argTs, List.getD_cons_succ, List.getD_cons_zero, Nat.le_refl, ↓reduceIte, List.drop_zero, List.take_succ_cons, List.take_nil, Option.map_some, ↓roK_ok, List.getElem?_cons_succ, ofV, true_and]
  refine FW.loopInv (fun l ts H => ∃ k : Int, k + (l : Int) = 3 ∧ 0 ≤ k ∧ afterL Tryz.prog GG id K (upto (sideL a b c m) k l) H ∧ ts 0 = .yld id ∧ ts 1 = .iptr [I a, I b, I c] 0 ∧ ts 2 = .iptr [I m] 0 ∧ ts 10 = .agg [I a, I b, I c] ∧ ts 11 = I k) 3
    ⟨0, by omega, by omega, h, rfl, rfl, rfl, rfl, rfl⟩ ?_
  clear h
  rintro l ih ts H ⟨k, hk, hk0, h, t0, t1, t2, t10, t11⟩
  refine FW.inLoop ?_
  have hkk : (l = 3 ∧ k = 0) ∨ (l = 2 ∧ k = 1) ∨ (l = 1 ∧ k = 2) ∨ (l = 0 ∧ k = 3) := by omega
  have e0 : dimV a b c 0 = a := rfl
  have e1 : dimV a b c 1 = b := rfl
  have e2 : dimV a b c 2 = c := rfl
  obtain ⟨q0, hq0⟩ : ∃ q, q = dimV a b c k := ⟨_, rfl⟩
  rcases hkk with ⟨rfl, rfl⟩ | ⟨rfl, rfl⟩ | ⟨rfl, rfl⟩ | ⟨rfl, rfl⟩
  rotate_left 3
  · refine walk hmix T24_ok [] 3000 3 (by kernel_rfl) ?_
    simp (maxSteps := 2000000) only [T24, T23, T22, T21, T20, T19, T18, T17, T16, T13, T12, T11, T10, T9, T8, T7, T6, T5, T4, T3, T2, T1, T0, Int.reduceNeg, kw0, List.size_toArray, List.length_cons, List.length_nil, Nat.zero_add, List.range_succ, List.range_zero, List.nil_append, List.getElem?_toArray, List.getElem?_cons_zero, Go.Ab.put, ↓opK_some, ↓guK_none, kw1, roOf, aop, aBin, ev, t11, ofV, aBinI, ↓reduceIte, Int.reduceLT, decide_false, Option.map_some, ↓roK_ok, upd, ↓gdK_false, exitTo, beq_self_eq_true, reduceCtorEq, or_false, ↓exK_some, sy_nil, true_and]
    exact ⟨_, rfl, h⟩
  all_goals
    rw [upto_succ] at h
    unfold sideL at h
    simp only [e0, e1, e2] at h hq0
    by_cases hd : q0 = 1
    · subst hq0
      rw [if_pos hd] at h
      refine walk hmix T24_ok [] 3000 3 (by kernel_rfl) ?_
      simp (maxSteps := 2000000) only [T24, T23, T22, T21, T20, T19, T18, T17, T16, T13, T12, T11, T10, T9, T8, T7, T6, T5, T4, T3, T2, T1, T0, Int.reduceNeg, kw0, List.size_toArray, List.length_cons, List.length_nil, Nat.zero_add, List.range_succ, List.range_zero, List.nil_append, List.getElem?_toArray, List.getElem?_cons_zero, Go.Ab.put, ↓opK_some, ↓guK_none, kw1, roOf, aop, aBin, ev, t11, ofV, aBinI, ↓reduceIte, Int.reduceLT, decide_true, Option.map_some, ↓roK_ok, upd, ↓gdK_true, Nat.reduceAdd, List.cons_append, Nat.reduceEqDiff, List.getElem?_cons_succ, aInt, aIdx, ty0, t10, hd, Int.reduceLE, Int.cast_ofNat_Int, and_self, aPart, Int.toNat_zero, Nat.reduceMul, aBuild, ty4, List.map_cons, List.map_nil, aFill, AV.isEl.eq_2, AV.cells.eq_2, Nat.reduceLeDiff, splice, List.take_zero, List.drop_succ_cons, List.drop_zero, Nat.le_refl, List.take_succ_cons, List.drop_nil, List.append_nil, beq_self_eq_true, exitTo, reduceCtorEq, or_false, ↓exK_some, Int.zero_add, wrapL, Int.toNat_one, Int.reduceAdd, decide_false, ↓gdK_false, true_and, Int.reduceToNat]
      exact ih _ (by decide) _ _ ⟨_, by decide, by decide, h, t0, t1, t2, t10, rfl⟩
    · have hd' : decide (q0 = 1) = false := decide_eq_false hd
      subst hq0
      rw [if_neg hd] at h
      refine walk hmix T24_ok [] 3000 1 (by kernel_rfl) ?_
      simp (maxSteps := 2000000) only [T24, T23, T22, T21, T20, T19, T18, T17, T16, T13, T12, T11, T10, T9, T8, T7, T6, T5, T4, T3, T2, T1, T0, Int.reduceNeg, kw0, List.size_toArray, List.length_cons, List.length_nil, Nat.zero_add, List.range_succ, List.range_zero, List.nil_append, List.getElem?_toArray, List.getElem?_cons_zero, Go.Ab.put, ↓opK_some, ↓guK_none, kw1, roOf, aop, aBin, ev, t11, ofV, aBinI, ↓reduceIte, Int.reduceLT, decide_true, Option.map_some, ↓roK_ok, upd, ↓gdK_true, Nat.reduceAdd, List.cons_append, Nat.reduceEqDiff, List.getElem?_cons_succ, aInt, aIdx, ty0, t10, Int.reduceLE, Int.cast_ofNat_Int, and_self, aPart, Int.toNat_zero, Nat.reduceMul, aBuild, ty4, List.map_cons, List.map_nil, aFill, AV.isEl.eq_2, AV.cells.eq_2, Nat.reduceLeDiff, splice, List.take_zero, List.drop_succ_cons, List.drop_zero, Nat.le_refl, List.take_succ_cons, List.drop_nil, List.append_nil, beq_eq_decide', hd', ↓gdK_false, aload, rdCells, t1, List.take_nil, t2, tcall, Tab.ext, gstep, reduceCtorEq, t0, ↓roK_call, true_and, Int.toNat_one, Int.reduceToNat]
      refine ACV.mono (callee := .yld id) h ?_
      rintro v H1 ⟨hf, ht, q, rfl⟩
      cases q
      · have hK := hf rfl
        refine walk hmix T24_ok [] 3000 0 (by kernel_rfl) ?_
        simp (maxSteps := 2000000) only [T24, T23, T22, T21, T20, T19, T18, T17, T16, T13, T12, T11, T10, T9, T8, T7, T6, T5, T4, T3, T2, T1, T0, Int.reduceNeg, kw0, List.getElem?_toArray, List.getElem?_cons_succ, List.getElem?_cons_zero, Go.Ab.put, ↓opK_some, ↓guK_none, kw1, roOf, aop, ev, upd, ↓reduceIte, Bool.not_false, ↓roK_ok, ↓gdK_true, reduceCtorEq, or_true, true_and]
        exact ⟨_, rfl, hK⟩
      · have hn := ht rfl
        refine walk hmix T24_ok [] 3000 1 (by kernel_rfl) ?_
        simp (maxSteps := 2000000) only [T24, T23, T22, T21, T20, T19, T18, T17, T16, T13, T12, T11, T10, T9, T8, T7, T6, T5, T4, T3, T2, T1, T0, Int.reduceNeg, kw0, List.getElem?_toArray, List.getElem?_cons_succ, List.getElem?_cons_zero, Go.Ab.put, ↓opK_some, ↓guK_none, kw1, roOf, aop, ev, upd, ↓reduceIte, Bool.not_true, ↓roK_ok, ↓gdK_false, List.size_toArray, List.length_cons, List.length_nil, Nat.zero_add, Nat.reduceAdd, List.range_succ, List.range_zero, List.nil_append, List.cons_append, aBin, Nat.reduceEqDiff, ofV, aBinI, Int.zero_add, Int.reduceLE, Int.reduceLT, wrapL, Option.map_some, decide_true, ↓gdK_true, aInt, aIdx, ty4, ty0, Int.cast_ofNat_Int, and_self, aPart, Int.toNat_one, Nat.reduceMul, beq_eq_decide', hd', aload, rdCells, t1, Nat.le_refl, List.drop_zero, List.take_succ_cons, List.take_nil, t2, tcall, Tab.ext, gstep, List.map_cons, List.map_nil, List.append_nil, reduceCtorEq, t0, ↓roK_call, true_and]
        refine ACV.mono (callee := .yld id) hn ?_
        rintro v H2 ⟨hf, ht, q, rfl⟩
        cases q
        · have hK := hf rfl
          refine walk hmix T24_ok [] 3000 0 (by kernel_rfl) ?_
          simp (maxSteps := 2000000) only [T24, T23, T22, T21, T20, T19, T18, T17, T16, T13, T12, T11, T10, T9, T8, T7, T6, T5, T4, T3, T2, T1, T0, Int.reduceNeg, kw0, List.getElem?_toArray, List.getElem?_cons_succ, List.getElem?_cons_zero, Go.Ab.put, ↓opK_some, ↓guK_none, kw1, roOf, aop, ev, upd, ↓reduceIte, Bool.not_false, ↓roK_ok, ↓gdK_true, reduceCtorEq, or_true, true_and]
          exact ⟨_, rfl, hK⟩
        · have hn := ht rfl
          refine walk hmix T24_ok [] 3000 1 (by kernel_rfl) ?_
          simp (maxSteps := 2000000) only [T24, T23, T22, T21, T20, T19, T18, T17, T16, T13, T12, T11, T10, T9, T8, T7, T6, T5, T4, T3, T2, T1, T0, Int.reduceNeg, kw0, List.getElem?_toArray, List.getElem?_cons_succ, List.getElem?_cons_zero, Go.Ab.put, ↓opK_some, ↓guK_none, kw1, roOf, aop, ev, upd, ↓reduceIte, Bool.not_true, ↓roK_ok, ↓gdK_false, List.size_toArray, List.length_cons, List.length_nil, Nat.zero_add, Nat.reduceAdd, List.range_succ, List.range_zero, List.nil_append, List.cons_append, aBin, Nat.reduceEqDiff, ofV, aBinI, Int.reduceAdd, Int.reduceLE, Int.reduceLT, wrapL, Option.map_some, decide_false, exitTo, beq_self_eq_true, reduceCtorEq, or_false, ↓exK_some, t11, Int.zero_add, true_and]
          exact ih _ (by decide) _ _ ⟨_, by decide, by decide, hn, t0, t1, t2, t10, rfl⟩
theorem ok28 : codeOk 30 (Tryz.f28.body.getD .skip) = true := by kernel_rfl
theorem ro28 : resOk 30 Tryz.f28.results = true := by kernel_rfl
theorem dr28 : todoDr [] [.code (Tryz.f28.body.getD .skip)] = true := by kernel_rfl
set_option maxHeartbeats 4000000 in
set_option maxRecDepth 400000 in
theorem sckd_ac {a b c : Int} {s : AV} (hd : okD a b c) (p : Pur Tryz.prog GG 8 [I (manyV a b c), s] (I 0)) (q : IsSet s) {H : List AO} {id : Nat} (hid : H[id]? = some (.arr 1 [s]))
    {K : AV → List AO → Prop} (hK : ∀ l, K (.tup [I (manyV a b c), I 0]) (H ++ l)) : AC Tryz.prog GG 28 [.agg [I a, I b, I c], .sl id 0 1 1] H K := by
  obtain ⟨a1, a2, a3⟩ := q.cell
  have hck := chk_ok.2 hd
  have hid2 : ∀ l, (H ++ l)[id]? = some (.arr 1 [s]) := fun l => by rw [List.getElem?_append_left (lt_of_get hid)]; exact hid
  refine AC.of_body (c := (Tryz.f28.body.getD .skip)) Tryz.func28 rfl (by decide) ok28 ro28 (by exact (by decide : 2 ≤ 30)) ?_
  refine walk hmix T24_ok [] 3000 1 dr28 ?_
  delta Tryz.f28
  simp only [Option.getD_some]
  simp (maxSteps := 2000000) only [T24, T23, T22, T21, T20, T19, T18, T17, T16, T13, T12, T11, T10, T9, T8, T7, T6, T5, T4, T3, T2, T1, T0, resA, resL, resVar, Option.some.injEq, kw0, List.size_toArray, List.length_cons, List.length_nil, Nat.zero_add, Nat.reduceAdd, List.range_succ, List.range_zero, List.nil_append, List.cons_append, List.getElem?_toArray, List.getElem?_cons_zero, Go.Ab.put, ↓opK_some, ↓guK_none, kw1, roOf, aop, ev, argTs, List.getD_cons_zero, AV.isEl.eq_2, ↓reduceIte, AV.cells.eq_1, ↓roK_ok, List.getElem?_cons_succ, ofV, aload, ty0, rdCells, upd, Nat.reduceEqDiff, get_concat, Nat.le_refl, List.drop_zero, List.take_succ_cons, List.take_nil, Option.map_some, tcall, Tab.ext, g7, List.map_cons, List.map_nil, List.append_nil, hck, List.getD_cons_succ, ty3, Int.cast_ofNat_Int, aBin, aBinI, Int.reduceLT, decide_true, ↓gdK_true, aInt, ty2, hid2, Int.reduceLE, and_self, Int.toNat_zero, Nat.add_zero, ty1, Nat.reduceLT, a3, beq_self_eq_true, ↓guK_some, Option.bind_some, ↓tmK_some, ↓gsK_true, Tab.nil, ↓roK_call, true_and]
  refine AC.pur p ?_
  refine walk hmix T24_ok [] 3000 1 (by kernel_rfl) ?_
  simp (maxSteps := 2000000) only [T24, T23, T22, T21, T20, T19, T18, T17, T16, T13, T12, T11, T10, T9, T8, T7, T6, T5, T4, T3, T2, T1, T0, kw0, List.getElem?_toArray, List.getElem?_cons_succ, List.getElem?_cons_zero, Go.Ab.put, ↓opK_some, ↓guK_some, Option.bind_some, ↓tmK_some, kw1, upd, Nat.reduceEqDiff, ↓reduceIte, ↓gsK_true, beq_self_eq_true, roOf, aop, aBin, ev, ofV, aBinI, bne_eq_decide', ne_eq, not_true_eq_false, decide_false, Option.map_some, ↓roK_ok, ↓guK_none, pickA, cond_true, ↓gdK_false, List.size_toArray, List.length_cons, List.length_nil, Nat.zero_add, Nat.reduceAdd, List.range_succ, List.range_zero, List.nil_append, List.cons_append, Int.zero_add, Int.reduceNeg, Int.reduceLE, Int.reduceLT, wrapL, exitTo, reduceCtorEq, or_false, ↓exK_some, or_true, true_and]
  exact ⟨_, rfl, hK _⟩
end Go.Ab.Pd

set_option linter.unusedSimpArgs false
set_option linter.unusedVariables false
namespace Go.Ab.Pd
open Go.Proofs
def allL (n : Int) : List Int := upto (fun i => [i]) 0 n.toNat
theorem allL_length (n : Int) : (allL n).length = n.toNat := by unfold allL; rw [upto_length _ 1 _ _ (fun _ _ _ => rfl), Nat.mul_one]
theorem allL_mem {n k : Int} (h : k ∈ allL n) : 0 ≤ k ∧ k < n := by
  obtain ⟨i, h1, h2, h3⟩ := mem_upto h
  rw [List.mem_singleton] at h3
  subst h3
  omega
theorem ok31 : codeOk 34 (Tryz.f31.body.getD .skip) = true := by kernel_rfl
theorem ro31 : resOk 34 Tryz.f31.results = true := by kernel_rfl
theorem dr31 : todoDr [] [.code (Tryz.f31.body.getD .skip)] = true := by kernel_rfl
set_option maxHeartbeats 4000000 in
set_option maxRecDepth 400000 in
theorem others_ex {n : Int} (hn : 1 ≤ n ∧ n ≤ 4096) {s : AV} (q : IsSet s) : ∃ s', IsSet s' ∧ Pur Tryz.prog GG 31 [I n, s] s' := by
  have hof := of_set_pur n (allL n) ⟨by omega, fun k hk => allL_mem hk, by rw [allL_length]; omega⟩
  obtain ⟨s', e, hs', hless⟩ := less_ex n (IsSet.isl (ofL_inU n (allL n))) q
  have hpu := q.pur
  refine ⟨s', hs', ?_⟩
  refine Pur.of_alone ggp (by simp [AV.purL, AV.pur, hpu]) (AC.of_body (c := (Tryz.f31.body.getD .skip)) Tryz.func31 rfl (by decide) ok31 ro31 (by exact (by decide : 2 ≤ 34)) ?_)
  refine walk hmix T24_ok [] 3000 0 dr31 ?_
  delta Tryz.f31
  simp only [Option.getD_some]
  simp (maxSteps := 2000000) only [T24, T23, T22, T21, T20, T19, T18, T17, T16, T13, T12, T11, T10, T9, T8, T7, T6, T5, T4, T3, T2, T1, T0, resA, resL, resVar, Option.some.injEq, kw0, List.size_toArray, List.length_cons, List.length_nil, Nat.zero_add, List.range_succ, List.range_zero, List.nil_append, List.getElem?_toArray, List.getElem?_cons_zero, Go.Ab.put, ↓opK_some, ↓guK_none, kw1, roOf, aop, ev, ofV, ↓roK_ok, Nat.reduceAdd, List.cons_append, upd, reduceCtorEq, ↓reduceIte, argTs, List.getD_cons_zero, List.getElem?_cons_succ, true_and]
  refine FW.loopInv (fun l ts H => ∃ (i : Int) (es : List Int) (sl : AV), i + (l : Int) = n ∧ 0 ≤ i ∧ es ++ upto (fun i => [i]) i l = allL n ∧ Own H sl (es.map IA) ∧ ts 0 = I n ∧ ts 1 = s ∧ ts 5 = sl ∧ ts 11 = I n ∧ ts 12 = I i) n.toNat
    ⟨0, [], _, by omega, by omega, rfl, .nil, rfl, rfl, rfl, rfl, rfl⟩ ?_
  rintro l ih ts H ⟨i, es, sl, hi, hi0, hes, hown, t0, t1, t5, t11, t12⟩
  refine FW.inLoop ?_
  by_cases hlt : i < n
  · have hd1 : decide (i < n) = true := decide_eq_true hlt
    obtain ⟨l, rfl⟩ : ∃ l', l = l' + 1 := ⟨l - 1, by omega⟩
    rw [upto_succ] at hes
    have hap := fun v => aApp1 (P := Tryz.prog) un64 un64 ze3 rfl by3 hown v
    have hel := len_le_of_append hes
    rw [allL_length] at hel
    refine walk hmix T24_ok [] 3000 0 (by kernel_rfl) ?_
    simp (maxSteps := 2000000) only [T24, T23, T22, T21, T20, T19, T18, T17, T16, T13, T12, T11, T10, T9, T8, T7, T6, T5, T4, T3, T2, T1, T0, kw0, List.size_toArray, List.length_cons, List.length_nil, Nat.zero_add, List.range_succ, List.range_zero, List.nil_append, List.getElem?_toArray, List.getElem?_cons_zero, Go.Ab.put, ↓opK_some, ↓guK_none, kw1, roOf, aop, aBin, ev, t12, t11, aBinI, ↓reduceIte, hd1, Option.map_some, ↓roK_ok, upd, ↓gdK_true, Nat.reduceAdd, List.cons_append, Nat.reduceEqDiff, List.getElem?_cons_succ, t5, ty2, ty0, AV.cells.eq_2, Nat.reduceMul, Nat.reducePow, Nat.reduceLeDiff, slv, List.reduceReplicate, ofV, List.map_cons, List.map_nil, aFillEs, AV.isEl.eq_2, Nat.reduceLT, and_self, List.set_cons_zero, aop2, hap, true_and]
    refine ⟨apC_of (by rw [List.length_map]; omega) (by decide), ?_⟩
    rw [wrapL (n := i + 1) (by omega) (by omega)]
    exact ih l (by omega) _ _ ⟨i + 1, es ++ [i], .sl (H.length + 1) 0 ((es.map IA).length + 1) ((es.map IA).length + 1), by omega, by omega, by rw [← hes]; simp, apI, t0, t1, rfl, t11, rfl⟩
  · have hd1 : decide (i < n) = false := decide_eq_false hlt
    have hl : l = 0 := by omega
    subst hl
    simp only [upto, List.append_nil] at hes
    subst hes
    refine walk hmix T24_ok [] 3000 0 (by kernel_rfl) ?_
    simp (maxSteps := 2000000) only [T24, T23, T22, T21, T20, T19, T18, T17, T16, T13, T12, T11, T10, T9, T8, T7, T6, T5, T4, T3, T2, T1, T0, kw0, List.size_toArray, List.length_cons, List.length_nil, Nat.zero_add, List.range_succ, List.range_zero, List.nil_append, List.getElem?_toArray, List.getElem?_cons_zero, Go.Ab.put, ↓opK_some, ↓guK_none, kw1, roOf, aop, aBin, ev, t12, t11, aBinI, ↓reduceIte, hd1, Option.map_some, ↓roK_ok, upd, ↓gdK_false, exitTo, beq_self_eq_true, reduceCtorEq, or_false, Nat.reduceEqDiff, ↓exK_some, Nat.reduceAdd, List.cons_append, t0, List.getElem?_cons_succ, t5, tcall, Tab.ext, Tab.nil, List.map_cons, List.map_nil, ↓roK_call, true_and]
    refine Own.freeze (pre := [I n]) (post := []) hown (purL_map IA _ (fun _ => rfl)) ?_
    intro H' _
    refine AC.pur hof ?_
    refine walk hmix T24_ok [] 3000 0 (by kernel_rfl) ?_
    simp (maxSteps := 2000000) only [T24, T23, T22, T21, T20, T19, T18, T17, T16, T13, T12, T11, T10, T9, T8, T7, T6, T5, T4, T3, T2, T1, T0, kw0, List.getElem?_toArray, List.getElem?_cons_succ, List.getElem?_cons_zero, Go.Ab.put, ↓opK_some, ↓guK_none, kw1, roOf, aop, ev, upd, ↓reduceIte, ↓roK_ok, Option.map_some, Nat.reduceEqDiff, List.size_toArray, List.length_cons, List.length_nil, Nat.zero_add, Nat.reduceAdd, List.range_succ, List.range_zero, List.nil_append, List.cons_append, reduceCtorEq, t0, t1, tcall, Tab.ext, Tab.nil, List.map_cons, List.map_nil, ↓roK_call, true_and]
    refine AC.pur hless ?_
    refine walk hmix T24_ok [] 3000 0 (by kernel_rfl) ?_
    simp (maxSteps := 2000000) only [T24, T23, T22, T21, T20, T19, T18, T17, T16, T13, T12, T11, T10, T9, T8, T7, T6, T5, T4, T3, T2, T1, T0, kw0, List.getElem?_toArray, List.getElem?_cons_succ, List.getElem?_cons_zero, Go.Ab.put, ↓opK_some, ↓guK_none, kw1, roOf, aop, ev, upd, ↓reduceIte, ↓roK_ok, Option.map_some, Nat.reduceEqDiff, List.size_toArray, List.length_cons, List.length_nil, Nat.zero_add, Nat.reduceAdd, List.range_succ, List.range_zero, List.nil_append, List.cons_append, reduceCtorEq, or_true, true_and]
    exact ⟨_, rfl, done_pur hs'.pur rfl⟩
noncomputable def hasB (n : Int) {s : AV} (q : IsSet s) (k : Int) : Bool := Classical.choose (has_ex n q k)
noncomputable def hasE (n : Int) {s : AV} (q : IsSet s) (k : Int) : Int := Classical.choose (Classical.choose_spec (has_ex n q k))
theorem has_pur (n : Int) {s : AV} (q : IsSet s) (k : Int) : Pur Tryz.prog GG 48 [I n, s, I k] (.tup [B (hasB n q k), I (hasE n q k)]) := Classical.choose_spec (Classical.choose_spec (has_ex n q k))
noncomputable def stepC (n : Int) {s : AV} (q : IsSet s) (acc o : Int) : Int := if hasB n q o = true then IntKind.i64.wrap (acc + 1) else acc
noncomputable def stepM (a b c n : Int) {s : AV} (q : IsSet s) (acc m : Int) : Int := (sidesL a b c m).foldl (stepC n q) acc
theorem ok33 : codeOk 43 (Tryz.f33.body.getD .skip) = true := by kernel_rfl
theorem ro33 : resOk 43 Tryz.f33.results = true := by kernel_rfl
theorem dr33 : todoDr [] [.code (Tryz.f33.body.getD .skip)] = true := by kernel_rfl
set_option maxHeartbeats 8000000 in
set_option maxRecDepth 400000 in
theorem open_ex (a b c n : Int) {s1 s2 : AV} (q1 : IsSet s1) (q2 : IsSet s2) : ∃ m : Int, Pur Tryz.prog GG 33 [.agg [I a, I b, I c], I n, s1, s2] (I m) := by
  obtain ⟨ls, e, hlen, hlist⟩ := list_ex n q1
  have h1 := q1.pur
  have h2 := q2.pur
  obtain ⟨b1, b2, b3⟩ := q2.cell
  refine ⟨ls.foldl (stepM a b c n q2) 0, ?_⟩
  refine Pur.of_alone ggp (by simp [AV.purL, AV.pur, h1, h2]) (AC.of_body (c := (Tryz.f33.body.getD .skip)) Tryz.func33 rfl (by decide) ok33 ro33 (by exact (by decide : 4 ≤ 43)) ?_)
  refine walk hmix T24_ok [] 3000 0 dr33 ?_
  delta Tryz.f33
  simp only [Option.getD_some]
  simp (maxSteps := 2000000) only [T24, T23, T22, T21, T20, T19, T18, T17, T16, T13, T12, T11, T10, T9, T8, T7, T6, T5, T4, T3, T2, T1, T0, resA, resL, resVar, aload, ty0, rdCells, kw0, List.size_toArray, List.length_cons, List.length_nil, Nat.zero_add, Nat.reduceAdd, List.range_succ, List.range_zero, List.nil_append, List.cons_append, List.getElem?_toArray, List.getElem?_cons_zero, Go.Ab.put, ↓opK_some, ↓guK_none, kw1, roOf, aop, ev, argTs, List.getD_cons_zero, AV.isEl.eq_2, ↓reduceIte, AV.cells.eq_1, ↓roK_ok, List.getElem?_cons_succ, upd, Nat.reduceEqDiff, List.getD_cons_succ, AV.cells.eq_2, b2, b3, Nat.le_refl, List.drop_zero, List.take_succ_cons, List.take_nil, Option.map_some, tcall, Tab.ext, Tab.nil, List.map_cons, List.map_nil, ↓roK_call, true_and]
  refine AC.pur hlist ?_
  refine walk hmix T24_ok [] 3000 0 (by kernel_rfl) ?_
  simp (maxSteps := 2000000) only [T24, T23, T22, T21, T20, T19, T18, T17, T16, T13, T12, T11, T10, T9, T8, T7, T6, T5, T4, T3, T2, T1, T0, kw0, List.getElem?_toArray, List.getElem?_cons_succ, List.getElem?_cons_zero, Go.Ab.put, ↓opK_some, ↓guK_none, kw1, roOf, aop, ev, upd, ↓reduceIte, ↓roK_ok, Option.map_some, Nat.reduceEqDiff, List.size_toArray, List.length_cons, List.length_nil, Nat.zero_add, Nat.reduceAdd, List.range_succ, List.range_zero, List.nil_append, List.cons_append, aLenI, ofV, true_and]
  refine FW.loopInv (fun l ts H => ∃ (i : Nat) (acc : Int), i + l = ls.length ∧ (ls.drop i).foldl (stepM a b c n q2) acc = ls.foldl (stepM a b c n q2) 0 ∧ H[0]? = some (.cells [I a, I b, I c]) ∧ H[1]? = some (.cells [I n]) ∧ H[2]? = some (.cells [s2]) ∧ H[3]? = some (.cells [I acc]) ∧
    ts 4 = .ptr 0 0 ∧ ts 5 = .ptr 1 0 ∧ ts 7 = .ptr 2 0 ∧ ts 8 = .ptr 3 0 ∧ ts 22 = frS (ls.map IA) ∧ ts 23 = I ls.length ∧ ts 24 = I (i : Int)) ls.length
    ⟨0, 0, by omega, rfl, rfl, rfl, rfl, rfl, rfl, rfl, rfl, rfl, rfl, rfl, rfl⟩ ?_
  rintro l ih ts H ⟨i, acc, hi, hes, g0, g1, g2, g3, t4, t5, t7, t8, t22, t23, t24⟩
  refine FW.inLoop ?_
  by_cases hlt : i < ls.length
  · have hd1 : decide ((i : Int) < (ls.length : Int)) = true := by simp [hlt]
    have hx := aIdxI (l := ls) i H (by omega)
    rw [Int.toNat_natCast, getD_map IA ls 0 hlt] at hx
    obtain ⟨l, rfl⟩ : ∃ l', l = l' + 1 := ⟨l - 1, by omega⟩
    rw [drop_cons 0 hlt, List.foldl_cons] at hes
    generalize ls.getD i 0 = m at hx hes
    refine walk hmix T24_ok [] 3000 0 (by kernel_rfl) ?_
    simp (maxSteps := 2000000) only [T24, T23, T22, T21, T20, T19, T18, T17, T16, T13, T12, T11, T10, T9, T8, T7, T6, T5, T4, T3, T2, T1, T0, kw0, List.size_toArray, List.length_cons, List.length_nil, Nat.zero_add, List.range_succ, List.range_zero, List.nil_append, List.getElem?_toArray, List.getElem?_cons_zero, Go.Ab.put, ↓opK_some, ↓guK_none, kw1, roOf, aop, aBin, ev, t24, t23, aBinI, ↓reduceIte, hd1, Option.map_some, ↓roK_ok, upd, ↓gdK_true, Nat.reduceAdd, List.cons_append, aInt, Nat.reduceEqDiff, t22, hx, AV.cells.eq_2, and_true, List.getElem?_cons_succ, aload, ty0, rdCells, Nat.le_refl, List.drop_zero, List.take_succ_cons, List.take_nil, t4, g0, tcall, Tab.ext, g47, List.map_cons, List.map_nil, List.append_nil, true_and]
    refine ⟨by omega, ?_⟩
    have hi1 := wrapL (n := (i : Int) + 1) (by omega) (by omega)
    have hL3 := lt_of_get g3
    refine FW.rangeFunc ?_
    simp (maxSteps := 2000000) only [ACV, ev, upd, ↓reduceIte, ne_eq, List.cons_append, List.nil_append]
    refine sides1 ?_
    generalize hal : AO.loop _ = lo
    refine afterL_rounds (fun l' H' => ∃ acc' : Int, l'.foldl (stepC n q2) acc' = (sidesL a b c m).foldl (stepC n q2) acc ∧ H'[H.length]? = some lo ∧ H'[0]? = some (.cells [I a, I b, I c]) ∧ H'[1]? = some (.cells [I n]) ∧ H'[2]? = some (.cells [s2]) ∧ H'[3]? = some (.cells [I acc'])) ?_ ?_ _ _
      ⟨acc, rfl, get_concat, (List.getElem?_append_left (by omega)).trans g0, (List.getElem?_append_left (by omega)).trans g1, (List.getElem?_append_left (by omega)).trans g2, (List.getElem?_append_left (by omega)).trans g3⟩
    · rintro H' ⟨acc', hacc, hb, k0, k1, k2, k3⟩
      rw [← hal] at hb
      refine ⟨_, hb, by simp, ?_⟩
      have hne : ∀ j, j < 4 → (H'.set H.length .dead)[j]? = H'[j]? := fun j hj => List.getElem?_set_ne (by omega)
      refine walk hmix T24_ok [] 3000 0 (by kernel_rfl) ?_
      simp (maxSteps := 2000000) only [T24, T23, T22, T21, T20, T19, T18, T17, T16, T13, T12, T11, T10, T9, T8, T7, T6, T5, T4, T3, T2, T1, T0, Option.map_none, Option.toList_none, List.nil_append, kw0, List.size_toArray, List.length_cons, List.length_nil, Nat.zero_add, Nat.reduceAdd, List.range_succ, List.range_zero, List.cons_append, List.getElem?_toArray, List.getElem?_cons_zero, Go.Ab.put, ↓opK_some, ↓guK_none, kw1, roOf, aop, aBin, ev, upd, Nat.reduceEqDiff, ↓reduceIte, t24, ofV, aBinI, hi1, Option.map_some, ↓roK_ok, List.getElem?_cons_succ, true_and]
      exact ih l (by omega) _ _ ⟨i + 1, acc', by omega, by rw [← hes]; congr 1, (hne 0 (by decide)).trans k0, (hne 1 (by decide)).trans k1, (hne 2 (by decide)).trans k2, (hne 3 (by decide)).trans k3, t4, t5, t7, t8, t22, t23, rfl⟩
    · rintro x l' H' ⟨acc', hacc, hb, k0, k1, k2, k3⟩
      rw [← hal] at hb
      refine AY.of_loop hb rfl ?_
      have hl1 := lt_of_get hb
      refine walk hmix T24_ok [] 3000 0 (by kernel_rfl) ?_
      simp (maxSteps := 2000000) only [T24, T23, T22, T21, T20, T19, T18, T17, T16, T13, T12, T11, T10, T9, T8, T7, T6, T5, T4, T3, T2, T1, T0, parTs, kw0, List.size_toArray, List.length_cons, List.length_nil, Nat.zero_add, List.range_succ, List.range_zero, List.nil_append, List.getElem?_toArray, List.getElem?_cons_zero, Go.Ab.put, ↓opK_some, ↓guK_none, kw1, roOf, aop, ev, upd, ↓reduceIte, ↓roK_ok, true_and]
      refine FW.beginRound hb rfl ?_
      generalize hH2 : H'.set H.length _ = H2
      obtain ⟨al2, hb2, hal2⟩ : ∃ al2, H2[H.length]? = some (.loop al2) ∧ AO.loop { al2 with st := .ready, pending := none } = lo := ⟨_, by rw [← hH2, List.getElem?_set_self hl1], hal⟩
      have hk : ∀ j, j < 4 → H2[j]? = H'[j]? := fun j hj => by rw [← hH2, List.getElem?_set_ne (by omega)]
      have j0 := (hk 0 (by decide)).trans k0
      have j1 := (hk 1 (by decide)).trans k1
      have j2 := (hk 2 (by decide)).trans k2
      have j3 := (hk 3 (by decide)).trans k3
      have hL2 := lt_of_get hb2
      clear hb hH2 k0 k1 k2 k3 hk
      refine walk hmix T24_ok [] 3000 0 (by kernel_rfl) ?_
      simp (maxSteps := 2000000) only [T24, T23, T22, T21, T20, T19, T18, T17, T16, T13, T12, T11, T10, T9, T8, T7, T6, T5, T4, T3, T2, T1, T0, kw0, List.size_toArray, List.length_cons, List.length_nil, Nat.zero_add, Nat.reduceAdd, List.range_succ, List.range_zero, List.nil_append, List.cons_append, List.getElem?_toArray, List.getElem?_cons_zero, Go.Ab.put, ↓opK_some, ↓guK_none, kw1, roOf, aop, aload, ty0, rdCells, ev, upd, Nat.reduceEqDiff, ↓reduceIte, t5, j1, Nat.le_refl, List.drop_zero, List.take_succ_cons, List.take_nil, Option.map_some, ↓roK_ok, List.getElem?_cons_succ, ty1, t7, j2, tcall, Tab.ext, Tab.nil, List.map_cons, List.map_nil, ↓roK_call, true_and]
      refine AC.pur (has_pur n q2 x) ?_
      rw [List.foldl_cons, stepC] at hacc
      refine walk hmix T24_ok [] 3000 0 (by kernel_rfl) ?_
      cases hq : hasB n q2 x
      · rw [hq, if_neg (by simp)] at hacc
        simp (maxSteps := 2000000) only [T24, T23, T22, T21, T20, T19, T18, T17, T16, T13, T12, T11, T10, T9, T8, T7, T6, T5, T4, T3, T2, T1, T0, kw0, List.getElem?_toArray, List.getElem?_cons_succ, List.getElem?_cons_zero, Go.Ab.put, ↓opK_some, ↓guK_none, kw1, roOf, aop, ev, upd, ↓reduceIte, ↓roK_ok, Option.map_some, Nat.reduceEqDiff, List.size_toArray, List.length_cons, List.length_nil, Nat.zero_add, List.range_succ, List.range_zero, List.nil_append, ↓gdK_false, sy_nil, true_and]
        have hg : ∀ (B : AO) (j : Nat), j < 4 → (H2.set H.length B)[j]? = H2[j]? := fun B j hj => List.getElem?_set_ne (by omega)
        exact ⟨rfl, al2, hb2, rfl, acc', hacc, by rw [List.getElem?_set_self hL2]; exact congrArg some hal2, (hg _ 0 (by decide)).trans j0, (hg _ 1 (by decide)).trans j1, (hg _ 2 (by decide)).trans j2, (hg _ 3 (by decide)).trans j3⟩
      · rw [hq, if_pos rfl] at hacc
        simp (maxSteps := 2000000) only [T24, T23, T22, T21, T20, T19, T18, T17, T16, T13, T12, T11, T10, T9, T8, T7, T6, T5, T4, T3, T2, T1, T0, kw0, List.getElem?_toArray, List.getElem?_cons_succ, List.getElem?_cons_zero, Go.Ab.put, ↓opK_some, ↓guK_none, kw1, roOf, aop, ev, upd, ↓reduceIte, ↓roK_ok, Option.map_some, Nat.reduceEqDiff, List.size_toArray, List.length_cons, List.length_nil, Nat.zero_add, List.range_succ, List.range_zero, List.nil_append, ↓gdK_true, Nat.reduceAdd, List.cons_append, aload, ty0, rdCells, t8, j3, Nat.le_refl, List.drop_zero, List.take_succ_cons, List.take_nil, aBin, ofV, aBinI, astore, AV.isEl.eq_2, AV.cells.eq_2, and_self, wrCells, splice, List.take_zero, List.drop_succ_cons, List.drop_nil, List.append_nil, sy_nil, true_and]
        have hg : ∀ (A B : AO) (j : Nat), j < 3 → ((H2.set 3 A).set H.length B)[j]? = H2[j]? := fun A B j hj => by rw [List.getElem?_set_ne (by omega), List.getElem?_set_ne (by omega)]
        exact ⟨rfl, al2, by rw [List.getElem?_set_ne (by omega)]; exact hb2, rfl, IntKind.i64.wrap (acc' + 1), hacc, by rw [List.getElem?_set_self (by rw [List.length_set]; exact hL2)]; exact congrArg some hal2, (hg _ _ 0 (by decide)).trans j0, (hg _ _ 1 (by decide)).trans j1, (hg _ _ 2 (by decide)).trans j2, by rw [List.getElem?_set_ne (by omega), List.getElem?_set_self (by omega)]⟩
  · have hd1 : decide ((i : Int) < (ls.length : Int)) = false := by simp; omega
    refine walk hmix T24_ok [] 3000 0 (by kernel_rfl) ?_
    simp (maxSteps := 2000000) only [T24, T23, T22, T21, T20, T19, T18, T17, T16, T13, T12, T11, T10, T9, T8, T7, T6, T5, T4, T3, T2, T1, T0, kw0, List.size_toArray, List.length_cons, List.length_nil, Nat.zero_add, List.range_succ, List.range_zero, List.nil_append, List.getElem?_toArray, List.getElem?_cons_zero, Go.Ab.put, ↓opK_some, ↓guK_none, kw1, roOf, aop, aBin, ev, t24, t23, aBinI, ↓reduceIte, hd1, Option.map_some, ↓roK_ok, upd, ↓gdK_false, exitTo, beq_self_eq_true, reduceCtorEq, or_false, Nat.reduceEqDiff, t8, g3, Nat.le_refl, List.drop_zero, List.take_succ_cons, List.take_nil, Option.some.injEq, ↓exK_some, or_true, true_and]
    rw [List.drop_eq_nil_of_le (by omega)] at hes
    have hes' : acc = ls.foldl (stepM a b c n q2) 0 := hes
    exact ⟨_, rfl, done_pur rfl (by rw [hes'])⟩
theorem ok18 : codeOk 60 (Tryz.f18.body.getD .skip) = true := by kernel_rfl
theorem ro18 : resOk 60 Tryz.f18.results = true := by kernel_rfl
theorem dr18 : todoDr [] [.code (Tryz.f18.body.getD .skip)] = true := by kernel_rfl
set_option maxHeartbeats 8000000 in
set_option maxRecDepth 400000 in
theorem score_ex {a b c x y z p q r : Int} {s t u : Bool} (hp : okPl a b c x y z p q r s t u) {m : AV} (qm : IsSet m) (hm : Pur Tryz.prog GG 8 [I (manyV a b c), m] (I 0)) :
    ∃ n : Int, Pur Tryz.prog GG 18 [.agg [I a, I b, I c], .agg [I x, I y, I z, I p, I q, I r, B s, B t, B u], m] (.tup [I n, I 0]) := by
  have hd := hp.1
  have hmu := okD_mul hd
  have hmv : manyV a b c = a * b * c := by rw [manyV, if_pos hd]
  have hd' := hd
  unfold okD at hd'
  have h1 : 0 < a * b * c := Int.mul_pos (Int.mul_pos (by omega) (by omega)) (by omega)
  have hn : 1 ≤ manyV a b c ∧ manyV a b c ≤ 4096 := by omega
  have hw3 := wrapL (n := 3 * manyV a b c) (by omega) (by omega)
  obtain ⟨o, qo, ho⟩ := others_ex hn qm
  have q1 : IsSet (.isl ((ownW a b c x y z p q r).map U)) := IsSet.isl (ofL_inU _ _)
  have q2 : IsSet (.isl ((linksW a b c x y z p q r s t u).map U)) := IsSet.isl (ofL_inU _ _)
  obtain ⟨f, e1, qf, hf⟩ := less_ex (manyV a b c) qo q1
  obtain ⟨cn, e2, hc⟩ := many_ex (3 * manyV a b c) q2
  obtain ⟨k, hk⟩ := open_ex a b c (manyV a b c) q1 qf
  obtain ⟨b1, b2, b3⟩ := qm.cell
  have hpu := qm.pur
  apply Exists.intro
  refine Pur.of_alone ggp (by simp [AV.purL, AV.pur, hpu]) (AC.of_body (c := (Tryz.f18.body.getD .skip)) Tryz.func18 rfl (by decide) ok18 ro18 (by exact (by decide : 3 ≤ 60)) ?_)
  refine walk hmix T24_ok [] 3000 0 dr18 ?_
  delta Tryz.f18
  simp only [Option.getD_some]
  simp (maxSteps := 2000000) only [T24, T23, T22, T21, T20, T19, T18, T17, T16, T13, T12, T11, T10, T9, T8, T7, T6, T5, T4, T3, T2, T1, T0, resA, resL, resVar, Option.some.injEq, kw0, List.size_toArray, List.length_cons, List.length_nil, Nat.zero_add, Nat.reduceAdd, List.range_succ, List.range_zero, List.nil_append, List.cons_append, List.getElem?_toArray, List.getElem?_cons_zero, Go.Ab.put, ↓opK_some, ↓guK_none, kw1, roOf, aop, ev, argTs, List.getD_cons_zero, AV.isEl.eq_2, ↓reduceIte, AV.cells.eq_1, ↓roK_ok, List.getElem?_cons_succ, upd, Nat.reduceEqDiff, List.getD_cons_succ, ofV, aload, ty0, rdCells, Nat.le_refl, List.drop_zero, List.take_succ_cons, List.take_nil, Option.map_some, ty2, ty1, AV.cells.eq_2, Nat.reduceMul, Nat.reducePow, Nat.reduceLeDiff, slv, List.reduceReplicate, List.map_cons, List.map_nil, aFillEs, b2, b3, Nat.reduceLT, and_self, List.set_cons_zero, tcall, Tab.ext, Tab.nil, ↓roK_call, true_and]
  refine sckd_ac hd hm qm rfl ?_
  intro l
  refine walk hmix T24_ok [] 3000 0 (by kernel_rfl) ?_
  simp (maxSteps := 2000000) only [T24, T23, T22, T21, T20, T19, T18, T17, T16, T13, T12, T11, T10, T9, T8, T7, T6, T5, T4, T3, T2, T1, T0, List.cons_append, List.nil_append, kw0, List.getElem?_toArray, List.getElem?_cons_succ, List.getElem?_cons_zero, Go.Ab.put, ↓opK_some, ↓guK_none, kw1, roOf, aop, ev, upd, ↓reduceIte, ↓roK_ok, Option.map_some, Nat.reduceEqDiff, List.size_toArray, List.length_cons, List.length_nil, Nat.zero_add, Nat.reduceAdd, List.range_succ, List.range_zero, aBin, ofV, aBinI, bne_eq_decide', ne_eq, not_true_eq_false, decide_false, ↓gdK_false, aload, ty0, rdCells, Nat.le_refl, List.drop_zero, List.take_succ_cons, List.take_nil, ty1, tcall, Tab.ext, g29, List.map_cons, List.map_nil, List.append_nil, argTs, List.getD_cons_succ, List.getD_cons_zero, Tab.nil, ↓roK_call, true_and]
  refine ⟨hp, ?_⟩
  refine AC.pur ho ?_
  refine walk hmix T24_ok [] 3000 0 (by kernel_rfl) ?_
  simp (maxSteps := 2000000) only [T24, T23, T22, T21, T20, T19, T18, T17, T16, T13, T12, T11, T10, T9, T8, T7, T6, T5, T4, T3, T2, T1, T0, kw0, List.getElem?_toArray, List.getElem?_cons_succ, List.getElem?_cons_zero, Go.Ab.put, ↓opK_some, ↓guK_none, kw1, roOf, aop, ev, upd, Nat.reduceEqDiff, ↓reduceIte, ↓roK_ok, tcall, Tab.ext, Tab.nil, List.map_cons, List.map_nil, ↓roK_call, true_and]
  refine AC.pur hf ?_
  refine walk hmix T24_ok [] 3000 0 (by kernel_rfl) ?_
  simp (maxSteps := 2000000) only [T24, T23, T22, T21, T20, T19, T18, T17, T16, T13, T12, T11, T10, T9, T8, T7, T6, T5, T4, T3, T2, T1, T0, kw0, List.getElem?_toArray, List.getElem?_cons_succ, List.getElem?_cons_zero, Go.Ab.put, ↓opK_some, ↓guK_none, kw1, roOf, aop, ev, upd, ↓reduceIte, ↓roK_ok, Option.map_some, Nat.reduceEqDiff, List.size_toArray, List.length_cons, List.length_nil, Nat.zero_add, Nat.reduceAdd, List.range_succ, List.range_zero, List.nil_append, List.cons_append, aBin, ofV, aBinI, hw3, tcall, Tab.ext, Tab.nil, List.map_cons, List.map_nil, ↓roK_call, true_and]
  refine AC.pur hc ?_
  refine walk hmix T24_ok [] 3000 0 (by kernel_rfl) ?_
  simp (maxSteps := 2000000) only [T24, T23, T22, T21, T20, T19, T18, T17, T16, T13, T12, T11, T10, T9, T8, T7, T6, T5, T4, T3, T2, T1, T0, kw0, List.getElem?_toArray, List.getElem?_cons_succ, List.getElem?_cons_zero, Go.Ab.put, ↓opK_some, ↓guK_none, kw1, roOf, aop, ev, upd, ↓reduceIte, ↓roK_ok, Option.map_some, Nat.reduceEqDiff, List.size_toArray, List.length_cons, List.length_nil, Nat.zero_add, Nat.reduceAdd, List.range_succ, List.range_zero, List.nil_append, List.cons_append, aload, ty0, rdCells, Nat.le_refl, List.drop_zero, List.take_succ_cons, List.take_nil, tcall, Tab.ext, Tab.nil, List.map_cons, List.map_nil, ↓roK_call, true_and]
  refine AC.pur hk ?_
  refine walk hmix T24_ok [] 3000 0 (by kernel_rfl) ?_
  simp (maxSteps := 2000000) only [T24, T23, T22, T21, T20, T19, T18, T17, T16, T13, T12, T11, T10, T9, T8, T7, T6, T5, T4, T3, T2, T1, T0, kw0, List.getElem?_toArray, List.getElem?_cons_succ, List.getElem?_cons_zero, Go.Ab.put, ↓opK_some, ↓guK_none, kw1, roOf, aop, aBin, ev, ofV, upd, ↓reduceIte, aBinI, Option.map_some, ↓roK_ok, Nat.reduceEqDiff, reduceCtorEq, or_true, true_and]
  exact ⟨_, rfl, done_pur rfl rfl⟩
end Go.Ab.Pd

set_option linter.unusedSimpArgs false
set_option linter.unusedVariables false
namespace Go.Ab.Pd
open Go.Proofs
theorem ok21 : codeOk 14 (Tryz.f21.body.getD .skip) = true := by kernel_rfl
theorem ro21 : resOk 14 Tryz.f21.results = true := by kernel_rfl
theorem dr21 : todoDr [] [.code (Tryz.f21.body.getD .skip)] = true := by kernel_rfl
set_option maxHeartbeats 4000000 in
set_option maxRecDepth 400000 in
theorem bits_pur (s t u : Bool) : Pur Tryz.prog GG 21 [.agg [B s, B t, B u]] (.agg [I (bitV s), I (bitV t), I (bitV u)]) := by
  refine Pur.of_alone ggp (by first | rfl | (simp [AV.purL, AV.pur]; done) | (simp [AV.purL, AV.pur, frS_pur (purL_map IA _ (fun _ => rfl)), purL_map U _ (fun _ => rfl)]; done) | (simp [AV.purL, AV.pur, *]; done)) (AC.of_body (c := (Tryz.f21.body.getD .skip)) Tryz.func21 rfl (by decide) ok21 ro21 (by exact (by decide : 1 ≤ 14)) ?_)
  refine walk hmix T24_ok [] 3000 5 dr21 ?_
  delta Tryz.f21
  simp only [Option.getD_some]
  simp (maxSteps := 2000000) only [T24, T23, T22, T21, T20, T19, T18, T17, T16, T13, T12, T11, T10, T9, T8, T7, T6, T5, T4, T3, T2, T1, T0, resA, resL, resVar, aload, ty0, rdCells, kw0, List.size_toArray, List.length_cons, List.length_nil, Nat.zero_add, Nat.reduceAdd, List.range_succ, List.range_zero, List.nil_append, List.cons_append, List.getElem?_toArray, List.getElem?_cons_zero, Go.Ab.put, ↓opK_some, ↓guK_none, kw1, roOf, aop, ev, argTs, List.getD_cons_zero, AV.isEl.eq_2, ↓reduceIte, AV.cells.eq_1, ↓roK_ok, List.getElem?_cons_succ, upd, Nat.reduceEqDiff, Nat.le_refl, List.drop_zero, List.take_succ_cons, List.take_nil, Option.map_some, ofV, aBin, aBinI, Int.reduceLT, decide_true, gdK_var, aInt, aIdx, Int.reduceLE, Int.cast_ofNat_Int, and_self, aPart, Int.toNat_zero, Nat.reduceMul, ptrAdd, Nat.add_zero, astore, AV.cells.eq_2, wrCells, Nat.reduceLeDiff, splice, List.take_zero, List.drop_succ_cons, List.set_cons_succ, List.set_cons_zero, Int.zero_add, Int.reduceNeg, wrapL, Int.toNat_one, Int.reduceAdd, Int.reduceToNat, List.drop_nil, List.append_nil, decide_false, Bool.false_eq_true, true_and, List.getElem?_nil, Option.map_none, ↓roK_bad, false_implies, exitTo, beq_self_eq_true, reduceCtorEq, or_false, Option.some.injEq, ↓exK_some, or_true, forall_const, Bool.true_eq_false, and_true]
  repeat' (first | apply And.intro | intro _)
  all_goals
    refine ⟨_, rfl, done_pur rfl ?_⟩
    simp [bitV, *]
def g21 : List AV → Option (Prop × AV)
  | [.agg [(.c (.bool s)), (.c (.bool t)), (.c (.bool u))]] => some (True, .agg [I (bitV s), I (bitV t), I (bitV u)])
  | _ => none
theorem g21_ok : ∀ args p, g21 args = some p → p.1 → Pur Tryz.prog GG 21 args p.2 := by
  intro args p hp hc
  unfold g21 at hp
  split at hp
  · cases hp
    exact bits_pur _ _ _
  · cases hp
def T25 : Tab := Tab.ext T24 21 g21
theorem T25_ok : TOk Tryz.prog GG T25 := TOk.ext T24_ok g21_ok
def orV (a b : Int) : Int := if a = 0 then b else a
theorem orV_0 {a b : Int} (h : a = 0) : orV a b = b := by rw [orV, if_pos h]
theorem orV_1 {a b : Int} (h : ¬a = 0) : orV a b = a := by rw [orV, if_neg h]
theorem ok22 : codeOk 18 (Tryz.f22.body.getD .skip) = true := by kernel_rfl
theorem ro22 : resOk 18 Tryz.f22.results = true := by kernel_rfl
theorem dr22 : todoDr [] [.code (Tryz.f22.body.getD .skip)] = true := by kernel_rfl
set_option maxHeartbeats 4000000 in
set_option maxRecDepth 400000 in
theorem or_ac {c1 c2 c3 c4 : Int} {H : List AO} {id : Nat} (hid : H[id]? = some (.arr 1 [I c1, I c2, I c3, I c4])) {K : AV → List AO → Prop} (hK : K (I (orV c1 (orV c2 (orV c3 c4)))) H) : AC Tryz.prog GG 22 [.sl id 0 4 4] H K := by
  refine AC.of_body (c := (Tryz.f22.body.getD .skip)) Tryz.func22 rfl (by decide) ok22 ro22 (by exact (by decide : 1 ≤ 18)) ?_
  refine walk hmix TOk.nil [] 3000 5 dr22 ?_
  delta Tryz.f22
  simp only [Option.getD_some]
  simp (maxSteps := 2000000) only [resA, resL, resVar, Option.some.injEq, kw0, List.size_toArray, List.length_cons, List.length_nil, Nat.zero_add, List.range_succ, List.range_zero, List.nil_append, List.getElem?_toArray, List.getElem?_cons_zero, Go.Ab.put, ↓opK_some, ↓guK_none, kw1, roOf, aop, ev, ofV, ↓roK_ok, Nat.reduceAdd, List.cons_append, upd, reduceCtorEq, ↓reduceIte, argTs, List.getD_cons_zero, List.getElem?_cons_succ, ty2, Int.cast_ofNat_Int, Option.map_some, aBin, Nat.reduceEqDiff, aBinI, Int.reduceLT, decide_true, ↓gdK_true, aInt, hid, Int.reduceLE, and_self, Int.toNat_zero, Nat.add_zero, aload, ty0, rdCells, Nat.reduceLT, Nat.le_refl, AV.cells.eq_2, List.drop_zero, List.take_succ_cons, List.take_nil, bne_eq_decide', ne_eq, decide_not, ↓gdK_not, ↓gdK_dec, Bool.not_true, Int.zero_add, Int.reduceNeg, wrapL, Int.toNat_one, List.getD_cons_succ, Int.reduceAdd, Int.reduceToNat, decide_false, ↓gdK_false, exitTo, beq_self_eq_true, or_false, ↓exK_some, or_true, true_and, Bool.not_false]
  refine ⟨fun h1 => ?_, fun h1 => ⟨_, rfl, by rw [orV_1 h1] at hK; exact hK⟩⟩
  rw [orV_0 h1] at hK
  refine ⟨fun h2 => ?_, fun h2 => ⟨_, rfl, by rw [orV_1 h2] at hK; exact hK⟩⟩
  rw [orV_0 h2] at hK
  refine ⟨fun h3 => ?_, fun h3 => ⟨_, rfl, by rw [orV_1 h3] at hK; exact hK⟩⟩
  rw [orV_0 h3] at hK
  exact ⟨fun h4 => ⟨_, rfl, by rw [h4] at hK; exact hK⟩, fun h4 => ⟨_, rfl, hK⟩⟩
theorem iab (id off len cap : Nat) (i : Int) (H : List AO) : aIdxAddr Tryz.prog 64 (.bs id off len cap 1) i H = some (0 ≤ i ∧ i < (len : Int), .ptr id (off + i.toNat * 1)) := by
  unfold aIdxAddr; simp only [un64, sz3]; rfl
theorem lbb (id off len cap sz : Nat) : aLen Tryz.prog 64 (.bs id off len cap sz) = some (len : Int) := by unfold aLen; simp only [un64]
def lexV (p q r p' q' r' : Int) : Int := orV (cmpV p p') (orV (cmpV q q') (cmpV r r'))
theorem ok24 : codeOk 36 (Tryz.f24.body.getD .skip) = true := by kernel_rfl
theorem ro24 : resOk 36 Tryz.f24.results = true := by kernel_rfl
theorem dr24 : todoDr [] [.code (Tryz.f24.body.getD .skip)] = true := by kernel_rfl
set_option maxHeartbeats 4000000 in
set_option maxRecDepth 400000 in
theorem scmp0 {p q r p' q' r' : Int} {H : List AO} {i1 i2 : Nat} (h1 : H[i1]? = some (.cells [I p, I q, I r])) (h2 : H[i2]? = some (.cells [I p', I q', I r'])) {K : AV → List AO → Prop} (hK : K (I (lexV p q r p' q' r')) H) : AC Tryz.prog GG 24 [.bs i1 0 3 3 1, .bs i2 0 3 3 1] H K := by
  unfold lexV at hK
  refine AC.of_body (c := (Tryz.f24.body.getD .skip)) Tryz.func24 rfl (by decide) ok24 ro24 (by exact (by decide : 2 ≤ 36)) ?_
  refine walk hmix T25_ok [] 3000 4 dr24 ?_
  delta Tryz.f24
  simp only [Option.getD_some]
  simp (maxSteps := 2000000) only [T25, T24, T23, T22, T21, T20, T19, T18, T17, T16, T13, T12, T11, T10, T9, T8, T7, T6, T5, T4, T3, T2, T1, T0, Int.reduceNeg, resA, resL, resVar, Option.some.injEq, kw0, List.size_toArray, List.length_cons, List.length_nil, Nat.zero_add, List.range_succ, List.range_zero, List.nil_append, List.getElem?_toArray, List.getElem?_cons_zero, Go.Ab.put, ↓opK_some, ↓guK_none, kw1, roOf, aop, ev, ofV, ↓roK_ok, Nat.reduceAdd, List.cons_append, upd, reduceCtorEq, ↓reduceIte, argTs, List.getD_cons_zero, List.getElem?_cons_succ, lbb, Int.cast_ofNat_Int, Option.map_some, aBin, Nat.reduceEqDiff, aBinI, Int.reduceLT, decide_true, ↓gdK_true, aInt, iab, Int.reduceLE, and_self, Int.toNat_zero, Nat.reduceMul, Nat.add_zero, aload, ty0, rdCells, h1, Nat.reduceLeDiff, List.drop_zero, List.take_succ_cons, List.take_zero, List.getD_cons_succ, decide_false, ↓gdK_false, h2, tcall, Tab.ext, g23, List.map_cons, List.map_nil, List.append_nil, bne_eq_decide', ne_eq, decide_not, ↓gdK_not, ↓gdK_dec, Bool.not_true, Int.zero_add, wrapL, Int.toNat_one, List.drop_succ_cons, Int.reduceAdd, Int.reduceToNat, Nat.le_refl, List.take_nil, exitTo, beq_self_eq_true, or_false, ↓exK_some, or_true, true_and, Bool.not_false]
  refine ⟨fun h1 => ?_, fun h1 => ⟨_, rfl, by rw [orV_1 h1] at hK; exact hK⟩⟩
  rw [orV_0 h1] at hK
  refine ⟨fun h2 => ?_, fun h2 => ⟨_, rfl, by rw [orV_1 h2] at hK; exact hK⟩⟩
  rw [orV_0 h2] at hK
  exact ⟨fun h3 => ⟨_, rfl, by rw [h3] at hK; exact hK⟩, fun h3 => ⟨_, rfl, hK⟩⟩
set_option maxHeartbeats 4000000 in
set_option maxRecDepth 400000 in
theorem scmp3 {p q r p' q' r' a1 a2 a3 b1 b2 b3 : Int} {c1 c2 c3 d1 d2 d3 : AV} {H : List AO} {i1 i2 : Nat} (h1 : H[i1]? = some (.cells [I a1, I a2, I a3, I p, I q, I r, c1, c2, c3])) (h2 : H[i2]? = some (.cells [I b1, I b2, I b3, I p', I q', I r', d1, d2, d3])) {K : AV → List AO → Prop} (hK : K (I (lexV p q r p' q' r')) H) : AC Tryz.prog GG 24 [.bs i1 3 3 3 1, .bs i2 3 3 3 1] H K := by
  unfold lexV at hK
  refine AC.of_body (c := (Tryz.f24.body.getD .skip)) Tryz.func24 rfl (by decide) ok24 ro24 (by exact (by decide : 2 ≤ 36)) ?_
  refine walk hmix T25_ok [] 3000 4 dr24 ?_
  delta Tryz.f24
  simp only [Option.getD_some]
  simp (maxSteps := 2000000) only [T25, T24, T23, T22, T21, T20, T19, T18, T17, T16, T13, T12, T11, T10, T9, T8, T7, T6, T5, T4, T3, T2, T1, T0, Int.reduceNeg, resA, resL, resVar, Option.some.injEq, kw0, List.size_toArray, List.length_cons, List.length_nil, Nat.zero_add, List.range_succ, List.range_zero, List.nil_append, List.getElem?_toArray, List.getElem?_cons_zero, Go.Ab.put, ↓opK_some, ↓guK_none, kw1, roOf, aop, ev, ofV, ↓roK_ok, Nat.reduceAdd, List.cons_append, upd, reduceCtorEq, ↓reduceIte, argTs, List.getD_cons_zero, List.getElem?_cons_succ, lbb, Int.cast_ofNat_Int, Option.map_some, aBin, Nat.reduceEqDiff, aBinI, Int.reduceLT, decide_true, ↓gdK_true, aInt, iab, Int.reduceLE, and_self, Int.toNat_zero, Nat.reduceMul, Nat.add_zero, aload, ty0, rdCells, h1, Nat.reduceLeDiff, List.drop_succ_cons, List.drop_zero, List.take_succ_cons, List.take_zero, List.getD_cons_succ, decide_false, ↓gdK_false, h2, tcall, Tab.ext, g23, List.map_cons, List.map_nil, List.append_nil, bne_eq_decide', ne_eq, decide_not, ↓gdK_not, ↓gdK_dec, Bool.not_true, Int.zero_add, wrapL, Int.toNat_one, Int.reduceAdd, Int.reduceToNat, exitTo, beq_self_eq_true, or_false, ↓exK_some, or_true, true_and, Bool.not_false]
  refine ⟨fun h1 => ?_, fun h1 => ⟨_, rfl, by rw [orV_1 h1] at hK; exact hK⟩⟩
  rw [orV_0 h1] at hK
  refine ⟨fun h2 => ?_, fun h2 => ⟨_, rfl, by rw [orV_1 h2] at hK; exact hK⟩⟩
  rw [orV_0 h2] at hK
  exact ⟨fun h3 => ⟨_, rfl, by rw [h3] at hK; exact hK⟩, fun h3 => ⟨_, rfl, hK⟩⟩
abbrev PL (x y z p q r : Int) (s t u : Bool) : AV := .agg [I x, I y, I z, I p, I q, I r, B s, B t, B u]
theorem ckPl (x y z p q r : Int) (s t u : Bool) : ckOk Tryz.prog 10000 28 (PL x y z p q r s t u) = true := by kernel_rfl
theorem flPl (x y z p q r : Int) (s t u : Bool) : flatA (PL x y z p q r s t u) = true := by rfl
theorem eqPl0 (x y z p q r x' y' z' p' q' r' : Int) (s t u s' t' u' : Bool) : aEq Tryz.prog 10000 28 (PL x y z p q r s t u) (PL x' y' z' p' q' r' s' t' u') =
    some ((((x == x' && (y == y' && (z == z' && true))) && ((p == p' && (q == q' && (r == r' && true))) && true))) && ((s == s' && (t == t' && (u == u' && true))) && true)) := by kernel_rfl
def samePl (x y z p q r x' y' z' p' q' r' : Int) (s t u s' t' u' : Bool) : Prop := x = x' ∧ y = y' ∧ z = z' ∧ p = p' ∧ q = q' ∧ r = r' ∧ s = s' ∧ t = t' ∧ u = u'
instance (x y z p q r x' y' z' p' q' r' : Int) (s t u s' t' u' : Bool) : Decidable (samePl x y z p q r x' y' z' p' q' r' s t u s' t' u') := by unfold samePl; infer_instance
theorem eqPl (x y z p q r x' y' z' p' q' r' : Int) (s t u s' t' u' : Bool) : aEq Tryz.prog 10000 28 (PL x y z p q r s t u) (PL x' y' z' p' q' r' s' t' u') = some (decide (samePl x y z p q r x' y' z' p' q' r' s t u s' t' u')) := by
  rw [eqPl0, Option.some.injEq, Bool.eq_iff_iff, decide_eq_true_iff]
  simp [samePl, and_assoc]
theorem find0 (k : AV) : aFind Tryz.prog 28 k [] = some none := rfl
theorem find1t {x y z p q r x' y' z' p' q' r' : Int} {s t u s' t' u' : Bool} {b : Nat} {v : AV} (h : samePl x y z p q r x' y' z' p' q' r' s t u s' t' u') : aFind Tryz.prog 28 (PL x y z p q r s t u) [(b, PL x' y' z' p' q' r' s' t' u', v)] = some (some 0) := by
  unfold aFind
  rw [eqPl, decide_eq_true h]
theorem find1f {x y z p q r x' y' z' p' q' r' : Int} {s t u s' t' u' : Bool} {b : Nat} {v : AV} (h : ¬samePl x y z p q r x' y' z' p' q' r' s t u s' t' u') : aFind Tryz.prog 28 (PL x y z p q r s t u) [(b, PL x' y' z' p' q' r' s' t' u', v)] = some none := by
  unfold aFind
  rw [eqPl, decide_eq_false h]
  rfl
theorem getA {H l : List AO} {j : Nat} : (H ++ l)[H.length + j]? = l[j]? := by rw [List.getElem?_append_right (by omega)]; congr 1; omega
theorem setA {H l : List AO} {j : Nat} {x : AO} : (H ++ l).set (H.length + j) x = H ++ l.set j x := by rw [List.set_append_right _ _ (by omega)]; congr 2; omega
theorem getA0 {H l : List AO} : (H ++ l)[H.length]? = l[0]? := by rw [List.getElem?_append_right (by omega)]; simp
theorem ok17 : codeOk 27 (Tryz.f17.body.getD .skip) = true := by kernel_rfl
theorem ro17 : resOk 27 Tryz.f17.results = true := by kernel_rfl
theorem dr17 : todoDr [] [.code (Tryz.f17.body.getD .skip)] = true := by kernel_rfl
set_option maxHeartbeats 4000000 in
set_option maxRecDepth 400000 in
theorem of_new {a b c x y z p q r n : Int} {s t u : Bool} {sv : AV} {H : List AO} {M D S m clock : Nat} {es : List (Nat × AV × AV)} (hsv : sv.isCell = true ∧ sv.isEl = true ∧ sv.cells = [sv])
    (hM : H[M]? = some (.cells [.mp m])) (hD : H[D]? = some (.cells [I a, I b, I c])) (hS : H[S]? = some (.cells [sv])) (hm : H[m]? = some (.map es clock)) (hf : aFind Tryz.prog 28 (PL x y z p q r s t u) es = some none)
    (hsc : Pur Tryz.prog GG 18 [.agg [I a, I b, I c], PL x y z p q r s t u, sv] (.tup [I n, I 0])) {K : AV → List AO → Prop}
    (hK : K (I n) ((H ++ [AO.cells [I x, I y, I z, I p, I q, I r, B s, B t, B u]]).set m (AO.map (es ++ [(clock, PL x y z p q r s t u, I n)]) (clock + 1)))) :
    AC Tryz.prog GG 17 [PL x y z p q r s t u, .ptr M 0, .ptr D 0, .ptr S 0] H K := by
  obtain ⟨a1, a2, a3⟩ := hsv
  have qM : ∀ l, (H ++ l)[M]? = some (.cells [.mp m]) := fun l => by rw [List.getElem?_append_left (lt_of_get hM)]; exact hM
  have qD : ∀ l, (H ++ l)[D]? = some (.cells [I a, I b, I c]) := fun l => by rw [List.getElem?_append_left (lt_of_get hD)]; exact hD
  have qS : ∀ l, (H ++ l)[S]? = some (.cells [sv]) := fun l => by rw [List.getElem?_append_left (lt_of_get hS)]; exact hS
  have qm : ∀ l, (H ++ l)[m]? = some (.map es clock) := fun l => by rw [List.getElem?_append_left (lt_of_get hm)]; exact hm
  have hck := ckPl x y z p q r s t u
  have hfl := flPl x y z p q r s t u
  refine AC.of_body (c := (Tryz.f17.body.getD .skip)) Tryz.func17 rfl (by decide) ok17 ro17 (by exact (by decide : 4 ≤ 27)) ?_
  refine walk hmix T25_ok [] 3000 0 dr17 ?_
  delta Tryz.f17
  simp only [Option.getD_some]
  simp (maxSteps := 2000000) only [T25, T24, T23, T22, T21, T20, T19, T18, T17, T16, T13, T12, T11, T10, T9, T8, T7, T6, T5, T4, T3, T2, T1, T0, resA, resL, resVar, Option.some.injEq, kw0, List.size_toArray, List.length_cons, List.length_nil, Nat.zero_add, Nat.reduceAdd, List.range_succ, List.range_zero, List.nil_append, List.cons_append, List.getElem?_toArray, List.getElem?_cons_zero, Go.Ab.put, ↓opK_some, ↓guK_none, kw1, roOf, aop, ev, argTs, List.getD_cons_zero, AV.isEl.eq_2, ↓reduceIte, AV.cells.eq_1, ↓roK_ok, List.getElem?_cons_succ, ofV, aload, ty2, rdCells, upd, Nat.reduceEqDiff, List.getD_cons_succ, qM, Nat.le_refl, List.drop_zero, List.take_succ_cons, List.take_nil, Option.map_some, ty1, ty0, get_concat, aop2, aLookup, hck, qm, hf, lkZero, lkRes, Bool.not_false, ↓gdK_true, qD, qS, tcall, Tab.ext, Tab.nil, List.map_cons, List.map_nil, ↓roK_call, true_and]
  refine AC.pur hsc ?_
  refine walk hmix T25_ok [] 3000 0 (by kernel_rfl) ?_
  simp (maxSteps := 2000000) only [T25, T24, T23, T22, T21, T20, T19, T18, T17, T16, T13, T12, T11, T10, T9, T8, T7, T6, T5, T4, T3, T2, T1, T0, kw0, List.getElem?_toArray, List.getElem?_cons_succ, List.getElem?_cons_zero, Go.Ab.put, ↓opK_some, ↓guK_none, kw1, roOf, aop, ev, upd, ↓reduceIte, ↓roK_ok, Option.map_some, Nat.reduceEqDiff, List.size_toArray, List.length_cons, List.length_nil, Nat.zero_add, Nat.reduceAdd, List.range_succ, List.range_zero, List.nil_append, List.cons_append, aload, ty2, rdCells, argTs, List.getD_cons_succ, List.getD_cons_zero, qM, Nat.le_refl, List.drop_zero, List.take_succ_cons, List.take_nil, ty1, ty0, get_concat, aop2, aMapUpdate, qm, hck, hfl, and_self, hf, reduceCtorEq, or_true, true_and]
  exact ⟨_, rfl, hK⟩
set_option maxHeartbeats 4000000 in
set_option maxRecDepth 400000 in
theorem of_known {x y z p q r x' y' z' p' q' r' n : Int} {s t u s' t' u' : Bool} {H : List AO} {M D S m clock b : Nat}
    (hM : H[M]? = some (.cells [.mp m])) (hm : H[m]? = some (.map [(b, PL x' y' z' p' q' r' s' t' u', I n)] clock)) (hsame : samePl x y z p q r x' y' z' p' q' r' s t u s' t' u') {K : AV → List AO → Prop}
    (hK : K (I n) (H ++ [AO.cells [I x, I y, I z, I p, I q, I r, B s, B t, B u]])) :
    AC Tryz.prog GG 17 [PL x y z p q r s t u, .ptr M 0, .ptr D 0, .ptr S 0] H K := by
  have qM : ∀ l, (H ++ l)[M]? = some (.cells [.mp m]) := fun l => by rw [List.getElem?_append_left (lt_of_get hM)]; exact hM
  have qm : ∀ l, (H ++ l)[m]? = some (.map [(b, PL x' y' z' p' q' r' s' t' u', I n)] clock) := fun l => by rw [List.getElem?_append_left (lt_of_get hm)]; exact hm
  have hck := ckPl x y z p q r s t u
  have hf := find1t (b := b) (v := I n) hsame
  refine AC.of_body (c := (Tryz.f17.body.getD .skip)) Tryz.func17 rfl (by decide) ok17 ro17 (by exact (by decide : 4 ≤ 27)) ?_
  refine walk hmix T25_ok [] 3000 0 dr17 ?_
  delta Tryz.f17
  simp only [Option.getD_some]
  simp (maxSteps := 2000000) only [T25, T24, T23, T22, T21, T20, T19, T18, T17, T16, T13, T12, T11, T10, T9, T8, T7, T6, T5, T4, T3, T2, T1, T0, resA, resL, resVar, Option.some.injEq, kw0, List.size_toArray, List.length_cons, List.length_nil, Nat.zero_add, Nat.reduceAdd, List.range_succ, List.range_zero, List.nil_append, List.cons_append, List.getElem?_toArray, List.getElem?_cons_zero, Go.Ab.put, ↓opK_some, ↓guK_none, kw1, roOf, aop, ev, argTs, List.getD_cons_zero, AV.isEl.eq_2, ↓reduceIte, AV.cells.eq_1, ↓roK_ok, List.getElem?_cons_succ, ofV, aload, ty2, rdCells, upd, Nat.reduceEqDiff, List.getD_cons_succ, qM, Nat.le_refl, List.drop_zero, List.take_succ_cons, List.take_nil, Option.map_some, ty1, ty0, get_concat, aop2, aLookup, hck, qm, hf, lkRes, Bool.not_true, ↓gdK_false, reduceCtorEq, or_true, true_and]
  exact ⟨_, rfl, hK⟩
theorem ok10 : codeOk 10 (Tryz.f10.body.getD .skip) = true := by kernel_rfl
theorem ro10 : resOk 10 Tryz.f10.results = true := by kernel_rfl
theorem dr10 : todoDr [] [.code (Tryz.f10.body.getD .skip)] = true := by kernel_rfl
set_option maxHeartbeats 4000000 in
set_option maxRecDepth 400000 in
theorem compare_ac {a b c : Int} {sv : AV} {H : List AO} (hsv : sv.isCell = true ∧ sv.isEl = true ∧ sv.cells = [sv]) {K : AV → List AO → Prop}
    (hK : K (.fn 19 [] [.ptr H.length 0, .ptr (H.length + 4) 0]) (H ++ [.cells [I a, I b, I c], .cells [sv], .map [] 0, .cells [.mp (H.length + 2)], .cells [.fn 17 [] [.ptr (H.length + 3) 0, .ptr H.length 0, .ptr (H.length + 1) 0]]])) :
    AC Tryz.prog GG 10 [.agg [I a, I b, I c], sv] H K := by
  obtain ⟨a1, a2, a3⟩ := hsv
  refine AC.of_body (c := (Tryz.f10.body.getD .skip)) Tryz.func10 rfl (by decide) ok10 ro10 (by exact (by decide : 2 ≤ 10)) ?_
  refine walk hmix T25_ok [] 3000 0 dr10 ?_
  delta Tryz.f10
  simp only [Option.getD_some]
  simp (maxSteps := 2000000) only [T25, T24, T23, T22, T21, T20, T19, T18, T17, T16, T13, T12, T11, T10, T9, T8, T7, T6, T5, T4, T3, T2, T1, T0, resA, resL, resVar, Option.some.injEq, kw0, List.size_toArray, List.length_cons, List.length_nil, Nat.zero_add, Nat.reduceAdd, List.range_succ, List.range_zero, List.nil_append, List.cons_append, List.getElem?_toArray, List.getElem?_cons_zero, Go.Ab.put, ↓opK_some, ↓guK_none, kw1, roOf, aop, ev, argTs, List.getD_cons_zero, AV.isEl.eq_2, ↓reduceIte, AV.cells.eq_1, ↓roK_ok, List.getElem?_cons_succ, upd, Nat.reduceEqDiff, List.getD_cons_succ, a2, List.length_append, a3, List.append_assoc, ofV, aop2, ty2, astore, AV.cells.eq_2, and_self, wrCells, getA, Nat.le_refl, splice, List.take_zero, List.drop_succ_cons, List.drop_nil, List.append_nil, setA, List.set_cons_succ, List.set_cons_zero, Option.map_some, List.map_nil, List.map_cons, reduceCtorEq, or_true, true_and]
  exact ⟨_, rfl, hK⟩
end Go.Ab.Pd
