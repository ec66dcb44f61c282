/-
  max, min, cap, copy, append of a new slice; entries of maps: sound.
-/
import Derived.Test.YtchodnhlkdlgmaaGreatDoorEvFf
set_option linter.unusedVariables false
set_option linter.unusedSimpArgs false
namespace Go.Ab
section
variable {P : Program} {G : Gl} {n : Nat} {o : Oper} {ts : Nat → AV} {H : List AO}

theorem opv_mm {mx : Bool} {args : Array Operand} {tys : Array TypeId} (ho : o.op = .call { callee := .builtin (match mx with | true => .max | false => .min), args := args, argTypes := tys }) {a b : Operand} (hargs : args.toList = [a, b])
    {v : AV} (h : aMM mx (ev ts a) (ev ts b) = some v) : OpV P G n o ts H v H :=
  OpV.pure fun E w tmps hH hT hok D => by
    have hall : ∀ y, y ∈ args → opdOk n y = true := fun y hy => by
      simp only [operOk, ho, Op.operands, Call.operands, Bool.and_eq_true] at hok
      have := (Array.all_eq_true'.1 hok.2) y
      cases mx <;> exact this (by simp; exact hy)
    have hma : a ∈ args := by rw [← Array.mem_toList_iff, hargs]; simp
    have hmb : b ∈ args := by rw [← Array.mem_toList_iff, hargs]; simp
    unfold aMM at h
    split at h
    · rename_i k x k' y hx hy
      have h1 := rep_int (rep_ev hT (hall a hma) D) hx
      have h2 := rep_int (rep_ev hT (hall b hmb) D) hy
      cases h
      have hl : (args.map (Act.eval ⟨tmps, D⟩)).toList = [.int k x, .int k' y] := by rw [Array.toList_map, hargs]; simp [h1, h2]
      cases mx with
      | true =>
        refine ⟨.int k (if x < y then y else x), .c rfl, ?_⟩
        have hexec : execOp (Act.eval ⟨tmps, D⟩) o = (do pure (.value (← Builtin.max_ tys o.type (args.map (Act.eval ⟨tmps, D⟩))))) := by
          simp [execOp, ho, resolve, invoke, builtin]
        rw [hexec]
        simp only [Builtin.max_, hl, List.foldlM, Builtin.max2, Sem.run_bind, Sem.run_pure, Result.andThen_ok]
      | false =>
        refine ⟨.int k (if y < x then y else x), .c rfl, ?_⟩
        have hexec : execOp (Act.eval ⟨tmps, D⟩) o = (do pure (.value (← Builtin.min_ tys o.type (args.map (Act.eval ⟨tmps, D⟩))))) := by
          simp [execOp, ho, resolve, invoke, builtin]
        rw [hexec]
        simp only [Builtin.min_, hl, List.foldlM, Builtin.min2, Sem.run_bind, Sem.run_pure, Result.andThen_ok]
    · cases h

theorem opv_cap {args : Array Operand} {tys : Array TypeId} (ho : o.op = .call { callee := .builtin .cap, args := args, argTypes := tys }) {t : TypeId} {x : Operand} (ht0 : tys[0]? = some t) (h0 : args[0]? = some x) {m : Int}
    (h : aCap P t (ev ts x) = some m) : OpV P G n o ts H (.c (.int .i64 m)) H :=
  OpV.pure fun E w tmps hH hT hok D => by
    have hall : ∀ y, y ∈ args → opdOk n y = true := fun y hy => by
      simp only [operOk, ho, Op.operands, Call.operands, Bool.and_eq_true] at hok
      exact (Array.all_eq_true'.1 hok.2) y (by simp; exact hy)
    have hx := rep_ev hT (hall x (Array.mem_of_getElem? h0)) D
    have ha0 : (args.map (Act.eval ⟨tmps, D⟩))[0]? = some (Act.eval ⟨tmps, D⟩ x) := by simp [h0]
    have hexec : execOp (Act.eval ⟨tmps, D⟩) o = (do pure (.value (← Builtin.cap_ tys o.type (args.map (Act.eval ⟨tmps, D⟩))))) := by
      simp [execOp, ho, resolve, invoke, builtin]
    generalize Act.eval ⟨tmps, D⟩ x = rx at hx ha0
    generalize ev ts x = ax at hx h
    unfold aCap at h
    refine ⟨.int .i64 m, .c rfl, ?_⟩
    rw [hexec]
    split at h
    · rename_i e hu
      cases h
      have := hx.c_inv
      subst this
      simp [Builtin.cap_, ht0, ha0, Sem.run_bind, run_underlying hu, goInt]
    · rename_i e hu
      cases h
      cases hx
      simp [Builtin.cap_, ht0, ha0, Sem.run_bind, run_underlying hu, goInt]
    · rename_i e id off len cap sz hu
      cases h
      cases hx
      simp [Builtin.cap_, ht0, ha0, Sem.run_bind, run_underlying hu, goInt]
    · cases h

/-- Part of a row is written. -/
theorem row_splice {w : World} {E : En} (hH : RelH G w E H) {id st : Nat} {sz : Nat} {es nw : List AV} {vs : List Value} (hid : H[id]? = some (.arr sz es)) {l : Loc} (hl : E.loc id = some l) (hpos : 0 < sz) (hr0 : RepR w E sz nw vs.toArray)
    (hfit0 : st + nw.length ≤ es.length) :
    ∃ w', (storeCells ⟨l.b, l.base + st * sz, none⟩ vs : Sem Unit).run P w = .ok () w' ∧ RelH G w' E (H.set id (.arr sz (es.take st ++ (nw ++ es.drop (st + nw.length))))) ∧ Grow H E w (H.set id (.arr sz (es.take st ++ (nw ++ es.drop (st + nw.length))))) E w' := by
  obtain ⟨l', hl', hsz, cs, tt, hcs, hbd, hr⟩ := hH.obj id _ hid rfl
  rw [hl] at hl'; cases hl'
  have hvl : vs.length = nw.length * sz := by simpa using hr0.1
  have hfit : l.base + st * sz + 0 + vs.length ≤ cs.size := by
    rw [hvl]
    have : st * sz + nw.length * sz ≤ es.length * sz := by rw [← Nat.add_mul]; exact Nat.mul_le_mul_right _ hfit0
    omega
  obtain ⟨w', c', g2, g3, g4, g5, g6, g7, g8, g9, g10⟩ := run_storeCells_ab (P := P) l.b tt vs (l.base + st * sz) 0 w cs hcs hfit (isEl_one hr0 hpos)
  have hlen3 : (es.take st ++ (nw ++ es.drop (st + nw.length))).length = es.length := by simp; omega
  have hres := rel_write hH hid rfl hl (.arr sz (es.take st ++ (nw ++ es.drop (st + nw.length)))) g5 g6
    (fun k hk => by simp only [rowSize, hcs, g3] at *; rw [g4]; exact hk) g7 g8 g9 (fun hm => ⟨hsz, c', tt, g3, by rw [hlen3, g4]; exact hbd, fun i hi => by
      rw [hlen3] at hi
      have hpos2 : (i + 1) * sz = i * sz + sz := by rw [Nat.add_mul]; omega
      by_cases hlt : i < st
      · have e : (es.take st ++ (nw ++ es.drop (st + nw.length))).getD i .un = es.getD i .un := by
          simp only [List.getD]
          rw [List.getElem?_append_left (by simp; omega), List.getElem?_take, if_pos hlt]
        rw [e]
        obtain ⟨a1, a2, a3⟩ := hr i hi
        refine ⟨a1, a2, fun j hj => ⟨(a3 j hj).1, ?_⟩⟩
        have hp : i * sz + j < st * sz := by
          have : (i + 1) * sz ≤ st * sz := Nat.mul_le_mul_right _ hlt
          omega
        rw [g10, if_neg (by omega)]
        exact (a3 j hj).2.mono hm
      · by_cases hlt2 : i < st + nw.length
        · have e : (es.take st ++ (nw ++ es.drop (st + nw.length))).getD i .un = nw.getD (i - st) .un := by
            simp only [List.getD]
            rw [List.getElem?_append_right (by simp; omega), List.getElem?_append_left (by simp; omega)]
            congr 2; simp; omega
          rw [e]
          have h5 := hr0.2 (i - st) (by omega)
          refine ⟨h5.1, h5.2.1, fun j hj => ⟨(h5.2.2 j hj).1, ?_⟩⟩
          have hsp : i * sz = st * sz + (i - st) * sz := by rw [← Nat.add_mul]; congr 1; omega
          have hp : (i - st) * sz + j < nw.length * sz := by
            have : (i - st + 1) * sz ≤ nw.length * sz := Nat.mul_le_mul_right _ (by omega)
            rw [Nat.add_mul] at this; omega
          rw [g10, if_pos (by rw [hvl]; omega)]
          have h7 := (h5.2.2 j hj).2.mono hm
          rw [getD_toArray] at h7
          rw [show l.base + i * sz + j - (l.base + st * sz + 0) = (i - st) * sz + j by omega]
          exact h7
        · have e : (es.take st ++ (nw ++ es.drop (st + nw.length))).getD i .un = es.getD i .un := by
            simp only [List.getD]
            rw [List.getElem?_append_right (by simp; omega), List.getElem?_append_right (by simp; omega), List.getElem?_drop]
            congr 2; simp; omega
          rw [e]
          obtain ⟨a1, a2, a3⟩ := hr i hi
          refine ⟨a1, a2, fun j hj => ⟨(a3 j hj).1, ?_⟩⟩
          have hp : (st + nw.length) * sz ≤ i * sz := Nat.mul_le_mul_right _ (by omega)
          rw [Nat.add_mul] at hp
          rw [g10, if_neg (by rw [hvl]; omega)]
          exact (a3 j hj).2.mono hm⟩)
  exact ⟨w', g2, hres.1, hres.2⟩

theorem isl_inv {w : World} {E : En} {es : List AV} {r : Value} (h : RepV w E (.isl es) r) : ∃ (ad : Addr) (cc sz : Nat) (f : Nat → Nat → Value), r = .slice (some ad) es.length cc ∧ (0 < es.length → E.fro ad.block ∧ ad.spot = none) ∧ es.length ≤ cc ∧
    (∀ i, i < es.length → (es.getD i .un).isEl = true ∧ (es.getD i .un).cells.length = sz) ∧ (∀ i j, i < es.length → j < sz → w.cell? ⟨ad.block, ad.off + i * sz + j, none⟩ = some (f i j)) ∧
    (∀ i j, i < es.length → j < sz → ((es.getD i .un).cells.getD j .un).isCell = true) ∧ (∀ i j, i < es.length → j < sz → RepV w E ((es.getD i .un).cells.getD j .un) (f i j)) := by
  cases h
  exact ⟨_, _, _, _, rfl, by assumption, by assumption, by assumption, by assumption, by assumption, by assumption⟩
/-- The beginning of a slice. -/
def takeA (q : Nat) : AV → AV
  | .sl id st len cap => .sl id st (min q len) cap
  | .isl es => .isl (es.take q)
  | a => a
theorem takeA_rep {w : World} {E : En} {x : AV} {r : Value} (h : RepV w E x r) {sz : Nat} {c : Prop} {els : List AV} (he : elsOf H sz x = some (c, els)) (hc : c) (q : Nat) :
    ∃ r', RepV w E (takeA q x) r' ∧ (∀ (size m : Nat), Builtin.firstCells size m r' = Builtin.firstCells size m r) ∧ ∃ c', elsOf H sz (takeA q x) = some (c', els.take q) ∧ c' := by
  unfold elsOf at he
  split at he
  · rename_i id st len cap
    split at he
    · rename_i sz' es ho
      split at he
      · rename_i hcnd
        cases he
        cases h with | @sl _ _ _ _ l ad cc hl h1 h2 h3 =>
        refine ⟨.slice (some ad) (min q len) cc, .sl hl (Nat.le_trans (Nat.min_le_right _ _) h1) h2 h3, fun size m => rfl, True, ?_, trivial⟩
        simp only [takeA, elsOf, ho]
        rw [if_pos ⟨hcnd.1, by have := Nat.min_le_right q len; omega⟩, List.take_take]
      · cases he
    · cases he
  · rename_i es
    cases he
    obtain ⟨ad, cc, sz0, f, rfl, hf, hcc, he1, hcell, hc1, h1⟩ := isl_inv h
    have hlen : (els.take q).length ≤ els.length := by rw [List.length_take]; omega
    have hget : ∀ i, i < (els.take q).length → (els.take q).getD i .un = els.getD i .un := fun i hi => by
      simp only [List.getD]
      rw [List.getElem?_take, if_pos (by rw [List.length_take] at hi; omega)]
    refine ⟨.slice (some ad) (els.take q).length cc, .isl (f := f) (sz := sz0) (fun h0 => hf (by omega)) (by omega) (fun i hi => by rw [hget i hi]; exact he1 i (by omega)) (fun i j hi hj => hcell i j (by omega) hj)
      (fun i j hi hj => by rw [hget i hi]; exact hc1 i j (by omega) hj) (fun i j hi hj => by rw [hget i hi]; exact h1 i j (by omega) hj), fun size m => rfl, _, rfl, fun h0 => ?_⟩
    rw [hget 0 h0]
    exact hc (by omega)
  · cases he
    exact ⟨r, h, fun _ _ => rfl, True, by simp [takeA, elsOf], trivial⟩
  · cases he
    exact ⟨r, h, fun _ _ => rfl, True, by simp [takeA, elsOf], trivial⟩
  · cases he

theorem opv_copy {args : Array Operand} {tys : Array TypeId} (ho : o.op = .call { callee := .builtin .copy, args := args, argTypes := tys }) {t : TypeId} {d x : Operand} (ht0 : tys[0]? = some t) (h0 : args[0]? = some d) (h1 : args[1]? = some x) {r : AR}
    (h : aCopy P t (ev ts d) (ev ts x) H = some r) (hC : r.c) : OpV P G n o ts H r.v r.H := by
  intro E w tmps hH hT hok D
  have hall : ∀ y, y ∈ args → opdOk n y = true := fun y hy => by
    simp only [operOk, ho, Op.operands, Call.operands, Bool.and_eq_true] at hok
    exact (Array.all_eq_true'.1 hok.2) y (by simp; exact hy)
  have hd := rep_ev hT (hall d (Array.mem_of_getElem? h0)) D
  have hx := rep_ev hT (hall x (Array.mem_of_getElem? h1)) D
  have ha0 : (args.map (Act.eval ⟨tmps, D⟩))[0]? = some (Act.eval ⟨tmps, D⟩ d) := by simp [h0]
  have ha1 : (args.map (Act.eval ⟨tmps, D⟩))[1]? = some (Act.eval ⟨tmps, D⟩ x) := by simp [h1]
  have hexec : execOp (Act.eval ⟨tmps, D⟩) o = (do pure (.value (← Builtin.copy_ tys o.type (args.map (Act.eval ⟨tmps, D⟩))))) := by
    simp [execOp, ho, resolve, invoke, builtin]
  rw [hexec]
  generalize args.map (Act.eval ⟨tmps, D⟩) = vargs at ha0 ha1
  generalize Act.eval ⟨tmps, D⟩ d = rd at hd ha0
  generalize Act.eval ⟨tmps, D⟩ x = rx at hx ha1
  generalize ev ts d = ad at hd h
  generalize ev ts x = ax at hx h
  unfold aCopy at h
  split at h
  · rename_i elem hu
    split at h
    · rename_i sz hs
      split at h
      · rename_i c els hels
        have hzero : ∀ (ba : Option Addr) (cc : Nat), c → rd = .slice ba 0 cc → (Builtin.copy_ tys o.type vargs).run P w = .ok (.int .i64 0) w := fun ba cc hc e => by
          subst e
          obtain ⟨vs, g1, g2, g3⟩ := elsOf_sound (P := P) hH hx hels hc (Nat.succ_pos _)
          obtain ⟨r', k1, k2, c', k3, k4⟩ := takeA_rep hx hels hc 0
          obtain ⟨vs', g1', g2', g3'⟩ := elsOf_sound (P := P) hH k1 k3 k4 (Nat.succ_pos _)
          have hv : vs' = [] := List.eq_nil_of_length_eq_zero (by have := g1'.1; simpa using this)
          have hf := g3' w rfl
          rw [k2, hv] at hf
          have hf' : (Builtin.firstCells (sz + 1) 0 rx).run P w = .ok #[] w := by simpa using hf
          cases ba <;> simp [Builtin.copy_, ht0, ha0, ha1, Sem.run_bind, run_underlying hu, g2, szT_run hs, hf', goInt, storeCells]
        split at h
        · rename_i id st len cap
          split at h
          · rename_i sz' es hid
            split at h
            · rename_i hcnd
              obtain ⟨rfl, hle, hcap⟩ := hcnd
              cases h
              have hc : c := hC
              obtain ⟨vs, g1, g2, g3⟩ := elsOf_sound (P := P) hH hx hels hc (Nat.succ_pos _)
              obtain ⟨r', k1, k2, c', k3, k4⟩ := takeA_rep hx hels hc (min els.length len)
              obtain ⟨vs', g1', g2', g3'⟩ := elsOf_sound (P := P) hH k1 k3 k4 (Nat.succ_pos _)
              have hlt : (els.take (min els.length len)).length = min els.length len := by rw [List.length_take]; omega
              have hf := g3' w rfl
              rw [k2, hlt] at hf
              cases hd with | @sl _ _ _ _ l ad cc hl q1 q2 q3 =>
              obtain ⟨rfl, m, hm1, hm2⟩ := q3 hcap
              obtain ⟨l', hl', hsz, _⟩ := hH.obj id _ hid rfl
              rw [hl] at hl'; cases hl'
              obtain ⟨w', s1, s2, s3⟩ := row_splice (P := P) (st := st) hH hid hl (Nat.succ_pos _) g1' (by rw [hlt]; omega)
              rw [hlt] at s2 s3
              refine ⟨E, w', _, s2, s3, .c rfl, .inl ?_⟩
              rw [← hsz] at s1
              have hmin : Nat.min els.length len = min els.length len := rfl
              simp only [Builtin.copy_, ht0, ha0, ha1, Sem.run_bind, run_underlying hu, Result.andThen_ok, g2, szT_run hs, hmin, hf, s1, Sem.run_pure, goInt]
            · cases h
          · cases h
        · cases h
          have := hd.c_inv
          subst this
          exact ⟨E, w, _, hH, Grow.refl _ _ _, .c rfl, .inl (by simp only [Sem.run_bind, hzero none 0 hC rfl, Result.andThen_ok, Sem.run_pure])⟩
        · cases h
          cases hd
          exact ⟨E, w, _, hH, Grow.refl _ _ _, .c rfl, .inl (by simp only [Sem.run_bind, hzero _ 0 hC rfl, Result.andThen_ok, Sem.run_pure])⟩
        · cases h
      · cases h
    · cases h
  · cases h

theorem run_append_mk {t u ty e : TypeId} {kd : IntKind} {i : TypeInfo} {z : Value} (ht : P.underlying t = some (.slice e)) (hu : P.underlying u = some (.int kd)) (hi : P.info? e = some i) (hz : i.zero = some z)
    {tys : Array TypeId} {args : Array Value} (ht0 : tys[0]? = some t) (ht1 : tys[1]? = some u) {base : Option Addr} {k : IntKind} {m : Nat} (h0 : args[0]? = some (.slice base 0 0)) (h1 : args[1]? = some (.int k ((m + 1 : Nat) : Int))) {w : World}
    (hs : 0 < i.size) (h63 : m + 1 ≤ 2 ^ 40) (hby : (m + 1) * i.bytes ≤ 2 ^ 40) :
    (Builtin.append_ tys ty args).run P w = .ok (.slice (some ⟨w.heap.size, 0, none⟩) (m + 1) (grownCap w (m + 1) 0 e))
      (w.drew.alloc (.cells ((Builtin.zeroCells z.cells (m + 1)).toList ++ (Builtin.zeroCells z.cells (grownCap w (m + 1) 0 e - (m + 1))).toList).toArray e)) := by
  have hw : IntKind.i64.wrap (((m + 1 : Nat) : Int)) = ((m + 1 : Nat) : Int) := wrap_i64 (by omega) (by omega)
  have hn : ¬ (((m + 1 : Nat) : Int) < 0) := by omega
  have hbig : ¬ (((m + 1 : Nat) : Int) * (i.bytes : Int) > 2 ^ 48) := by
    have : (((m + 1) * i.bytes : Nat) : Int) = ((m + 1 : Nat) : Int) * (i.bytes : Int) := by push_cast; rfl
    omega
  have hne : ¬ ((m + 1) * i.size = 0) := Nat.ne_of_gt (Nat.mul_pos (Nat.succ_pos m) hs)
  have h63' : ¬ (9223372036854775807 < ((m + 1 : Nat) : Int)) := by omega
  have hfit := growslice_fits (need := m + 1) (old := 0) (bytes := i.bytes) (by omega) (by omega)
  have h48' : ¬ (281474976710656 < Builtin.nextslicecap (m + 1) 0 * i.bytes) := by omega
  have hold : ∀ w' : World, (Builtin.firstCells i.size 0 (.slice base 0 0)).run P w' = .ok #[] w' := fun w' => by cases base <;> simp [Builtin.firstCells, loadCells, loadCellsFrom]
  have htn : (((m + 1 : Nat) : Int)).toNat = m + 1 := rfl
  have hgt : ¬ (0 + (m + 1) ≤ 0) := by omega
  have hti : ∀ w' : World, (typeInfo e).run P w' = .ok i w' := fun w' => by simp [typeInfo, hi]
  have hso : ∀ w' : World, (sizeOf e).run P w' = .ok i.size w' := fun w' => by simp [sizeOf, typeInfo, hi]
  have hzv : ∀ w' : World, (zeroValue e).run P w' = .ok z w' := fun w' => by simp [zeroValue, typeInfo, hi, hz]
  have h1' : ¬ ((((0 + (m + 1) : Nat) : Int) > IntKind.i64.max) ∧ (True ∨ i.bytes = 0)) := by
    rintro ⟨h, _⟩
    have : IntKind.i64.max = 9223372036854775807 := by decide
    omega
  have h48'' : ¬ (Builtin.nextslicecap (0 + (m + 1)) 0 * i.bytes > 2 ^ 48) := by rw [Nat.zero_add]; omega
  have hap : ∀ w' : World, ((if (m + 1) * i.size = 0 then pure #[] else do pure (Builtin.zeroCells (← zeroValue e).cells (m + 1)) : Sem (Array Value))).run P w' = .ok (Builtin.zeroCells z.cells (m + 1)) w' := fun w' => by
    rw [if_neg hne]; simp only [Sem.run_bind, hzv, Result.andThen_ok, Sem.run_pure]
  simp only [Builtin.append_, ht0, ht1, h0, h1, run_underlying ht, run_underlying hu, hti, hso, hzv, Sem.run_bind, Result.andThen_ok, Sem.run_pure, asInt, asIntOf, hw, if_true, if_neg hn, if_neg hbig, htn, if_neg hgt, if_neg h1', if_neg h48'', ite_true, Bool.not_true, Bool.false_eq_true, if_false, true_or, hap, hold]
  have h63s : ¬ (9223372036854775807 < (m : Int) + 1) := by omega
  have hm0 : ¬ (i.size = 0) := by omega
  simp [Question.forced, newRow, grownCap, h63s, h48', hti, hzv, hold, hm0]
  rw [if_neg hne]
  congr 3
  apply Array.ext'
  simp

theorem opv_appMake {args : Array Operand} {tys : Array TypeId} (ho : o.op = .call { callee := .builtin .append, args := args, argTypes := tys }) {t u : TypeId} {s x : Operand} (ht0 : tys[0]? = some t) (ht1 : tys[1]? = some u) (h0 : args[0]? = some s) (h1 : args[1]? = some x)
    {kd : IntKind} (huu : P.underlying u = some (.int kd)) {r : AR} (h : aAppMake P t (ev ts s) (ev ts x) H = some r) (hC : r.c) : OpV P G n o ts H r.v r.H := by
  intro E w tmps hH hT hok D
  have hall : ∀ y, y ∈ args → opdOk n y = true := fun y hy => by
    simp only [operOk, ho, Op.operands, Call.operands, Bool.and_eq_true] at hok
    exact (Array.all_eq_true'.1 hok.2) y (by simp; exact hy)
  have hs := rep_ev hT (hall s (Array.mem_of_getElem? h0)) D
  have hx := rep_ev hT (hall x (Array.mem_of_getElem? h1)) D
  have ha0 : (args.map (Act.eval ⟨tmps, D⟩))[0]? = some (Act.eval ⟨tmps, D⟩ s) := by simp [h0]
  have ha1 : (args.map (Act.eval ⟨tmps, D⟩))[1]? = some (Act.eval ⟨tmps, D⟩ x) := by simp [h1]
  have hexec : execOp (Act.eval ⟨tmps, D⟩) o = (do pure (.value (← Builtin.append_ tys o.type (args.map (Act.eval ⟨tmps, D⟩))))) := by
    simp [execOp, ho, resolve, invoke, builtin]
  rw [hexec]
  generalize args.map (Act.eval ⟨tmps, D⟩) = vargs at ha0 ha1
  generalize Act.eval ⟨tmps, D⟩ s = rs at hs ha0
  generalize Act.eval ⟨tmps, D⟩ x = rx at hx ha1
  generalize ev ts s = as at hs h
  generalize ev ts x = ax at hx h
  unfold aAppMake at h
  split at h
  · rename_i elem hut
    split at h
    · rename_i z by' k m hz hb hm
      have hx' := rep_int hx hm
      subst hx'
      obtain ⟨i, zv, hi, hiz, hib, his, hpos, hzs⟩ := info_of_zeroEl hz hb
      split at h
      · rename_i hemp
        obtain ⟨a, rfl⟩ := emptyS_rep hemp hs
        split at h
        · cases h
          refine ⟨E, w, _, hH, Grow.refl _ _ _, hs, .inl ?_⟩
          have : (Builtin.append_ tys o.type vargs).run P w = .ok (.slice a 0 0) w := by
            have hw0 : IntKind.i64.wrap (Int.ofNat 0) = 0 := wrap_i64 (by simp) (by simp)
            cases a <;> simp [Builtin.append_, ht0, ht1, ha0, ha1, run_underlying hut, run_underlying huu, sizeOf, typeInfo, hi, asInt, asIntOf, storeCells, IntKind.wrap, IntKind.bits, IntKind.signed]
          simp only [Sem.run_bind, this, Result.andThen_ok, Sem.run_pure]
        · rename_i q
          cases h
          obtain ⟨hb1, hb2⟩ := hC
          have hrun := run_append_mk (ty := o.type) (m := q) hut huu hi hiz ht0 ht1 ha0 ha1 (by rw [his]; exact hpos) hb2 (by rw [hib]; exact hb1) (w := w)
          have hdrew : RelH G w.drew E H ∧ Mono w E w.drew E := rel_same hH rfl
          have gdrew : Grow H E w H E w.drew := ⟨hdrew.2, Nat.le_refl _, fun _ _ _ => rfl, fun _ h => .inl h, fun _ h => .inl h, rfl, rfl, rfl⟩
          obtain ⟨zv', hzv', hzc, hzof, _, _⟩ := zeroEl_inv hz
          have hzz : zv' = zv := by rw [hi] at hzv'; simp only [Option.bind_some, hiz] at hzv'; cases hzv'; rfl
          subst hzz
          have hrz := repR_zero hzc w.drew E (q + 1)
          have hzcells : Builtin.zeroCells zv'.cells (q + 1) = (Array.range ((q + 1) * zv'.cells.size)).map (fun q => zv'.cells[q % zv'.cells.size]!) := rfl
          rw [← hzcells, ← hzof] at hrz
          have hge := grownCap_ge w (q + 1) 0 elem
          obtain ⟨E', g1, g2, g3⟩ := grown_rep (e := elem) (es := []) (olds := []) hdrew.1 hpos ⟨by simp, fun i hi => by simp at hi⟩ (els := List.replicate (q + 1) z) (news := (Builtin.zeroCells zv'.cells (q + 1)).toList) (by simpa using hrz) hzs (cap := grownCap w (q + 1) 0 elem) (by simpa using hge)
          simp only [List.length_nil, Nat.zero_add, List.length_replicate, List.nil_append] at g1 g2 g3
          exact ⟨E', _, _, g1, gdrew.trans g2, g3, .inl (by simp only [Sem.run_bind, hrun, Result.andThen_ok, Sem.run_pure]; rfl)⟩
        · cases h
      · cases h
    · cases h
  · cases h

theorem opv_insert {t : TypeId} {m k x : Operand} (ho : o.op = .insert t m k x) {r : AR} (h : aMapUpdate P t (ev ts m) (ev ts k) (ev ts x) H = some r) (hC : r.c) : OpV P G n o ts H r.v r.H := by
  have h1 := opv_mapUpdate (P := P) (G := G) (n := n) (ts := ts) (H := H) (o := { o with op := .mapUpdate t m k x }) rfl h hC
  intro E w tmps hH hT hok D
  have hok' : operOk n { o with op := .mapUpdate t m k x } = true := by
    simp only [operOk, ho, Op.operands] at hok ⊢
    exact hok
  obtain ⟨E', w', q, g1, g2, g3, g4⟩ := h1 E w tmps hH hT hok' D
  refine ⟨E', w', q, g1, g2, g3, ?_⟩
  have e : execOp (Act.eval ⟨tmps, D⟩) { o with op := .mapUpdate t m k x } = execOp (Act.eval ⟨tmps, D⟩) o := by simp [execOp, ho]
  rw [← e]; exact g4

theorem rep_pair {w : World} {E : En} {a b : AV} {x y : Value} (h1 : RepV w E a x) (h2 : RepV w E b y) : RepV w E (.tup [a, b]) (.tuple #[x, y]) := by
  refine .tup (by simp) (fun i hi => ?_)
  match i with
  | 0 => exact h1
  | 1 => exact h2
  | i + 2 => simp at hi; omega

theorem opv_mapEntry {t : TypeId} {m k : Operand} (ho : o.op = .mapEntry t m k) {r : AR} (h : aMapEntry P t (ev ts m) (ev ts k) H = some r) (hC : r.c) : OpV P G n o ts H r.v r.H := by
  intro E w tmps hH hT hok D
  have hall : ∀ y, y ∈ (#[m, k] : Array Operand) → opdOk n y = true := fun y hy => by
    simp only [operOk, ho, Op.operands, Bool.and_eq_true] at hok
    exact (Array.all_eq_true'.1 hok.2) y hy
  have hm := rep_ev hT (hall m (by simp)) D
  have hk := rep_ev hT (hall k (by simp)) D
  have hexec : execOp (Act.eval ⟨tmps, D⟩) o = (do pure (.value (← Instr.mapEntry t (Act.eval ⟨tmps, D⟩ m) (Act.eval ⟨tmps, D⟩ k)))) := by
    simp [execOp, ho]
  rw [hexec]
  generalize Act.eval ⟨tmps, D⟩ m = rm at hm
  generalize Act.eval ⟨tmps, D⟩ k = rk at hk
  generalize ev ts m = am at hm h
  generalize ev ts k = ak at hk h
  unfold aMapEntry at h
  split at h
  · rename_i kt et id hu
    split at h
    · rename_i es clock hid
      split at h
      · rename_i hcnd
        obtain ⟨hck, hfl⟩ := hcnd
        cases hm with | @mp _ l hl =>
        obtain ⟨l', hl', ces, hces, hal⟩ := hH.obj id _ hid rfl
        rw [hl] at hl'; cases hl'
        have hckr := ck_sound (b := false) 10000 hck hk
        have hkt : ∃ d, P.underlying kt = some d := by
          cases hd : P.underlying kt with
          | some d => exact ⟨d, rfl⟩
          | none => simp [ckOk, hd] at hck
        obtain ⟨d, hd⟩ := hkt
        have hget : (getObj l.b).run P w = .ok (.map ces clock) w := by simp [getObj, Sem.run, hces]
        split at h
        · rename_i i hf
          cases h
          obtain ⟨hfk, hlt⟩ := findKey_sound hd hk hal hf
          have hi := hlt i rfl
          have hic : i < ces.size := by have := hal.length; simp at this; omega
          obtain ⟨q1, q2, q3⟩ := hal.get i hi
          have hC' : (es.getD i default).2.1 = ak := hC
          rw [hC'] at q2
          have hsame := flat_eq hfl hk q2
          have hcg : ces.toList.getD i default = ces[i] := by simp [List.getD, hic]
          have hset : (setObj l.b (.map (ces.modify i fun e => { e with key := rk }) clock)).run P w = .ok () { w with heap := w.heap.setIfInBounds l.b (.map (ces.modify i fun e => { e with key := rk }) clock) } := by
            simp [setObj, Sem.run, hces]
          have hmod : ces.modify i (fun e => { e with key := rk }) = ces.modify i (fun e => { e with key := rk, val := ces[i].val }) := by
            apply Array.ext (by simp)
            intro j h1 h2
            simp only [Array.getElem_modify]
            split
            · rename_i e; subst e; rfl
            · rfl
          have hw := rel_write hH (w' := { w with heap := w.heap.setIfInBounds l.b (.map (ces.modify i fun e => { e with key := rk }) clock) }) hid rfl hl
            (.map (es.set i ((es.getD i default).1, ak, (es.getD i default).2.2)) clock) (by simp) (fun c hcne => Array.getElem?_setIfInBounds_ne (fun e => hcne e.symm)) (fun q hq => by simp [rowSize, hces] at hq) rfl rfl rfl
            (fun hmn => ⟨ces.modify i fun e => { e with key := rk }, by simp [heap_lt hces], by
              rw [hmod, Array.toList_modify]
              rw [hcg] at q3
              exact (hal.mono hmn).modify i hi (hk.mono hmn) (q3.mono hmn)⟩)
          refine ⟨E, _, .tuple #[ces[i].val, goInt ces[i].born], hw.1, hw.2, rep_pair ?_ ?_, .inl ?_⟩
          · rw [hcg] at q3; exact q3.mono hw.2.mono
          · rw [hcg] at q1
            rw [← q1]; exact .c rfl
          · have hkey : (ces[i]?.map (·.key)).getD rk = rk := by
              rw [hcg] at hsame
              simp [hic, ← hsame.1]
            have hstay : (Instr.keyThatStays rk rk).run P w = .ok rk w := by simp [Instr.keyThatStays, hsame.2]
            have hbn : (ces[i]?.map (·.born)).getD 0 = ces[i].born := by simp [hic]
            simp only [Instr.mapEntry, Sem.run_bind, run_underlying hu, Result.andThen_ok, hget, hckr, hfk, Option.map_some, hkey, hstay, hset, Sem.run_pure, hcg, hbn]
            simp [hic]
        · rename_i hf
          split at h
          · rename_i z hz
            cases h
            obtain ⟨zv, z1, ⟨z2, z3⟩, rfl, _⟩ := zeroEl_inv hz
            have hzr := zeroValue_run (P := P) z1 w
            obtain ⟨hfk, _⟩ := findKey_sound hd hk hal hf
            have hset : (setObj l.b (.map (ces.push { key := rk, val := zv, born := clock }) (clock + 1))).run P w = .ok () { w with heap := w.heap.setIfInBounds l.b (.map (ces.push { key := rk, val := zv, born := clock }) (clock + 1)) } := by
              simp [setObj, Sem.run, hces]
            have hw := rel_write hH (w' := { w with heap := w.heap.setIfInBounds l.b (.map (ces.push { key := rk, val := zv, born := clock }) (clock + 1)) }) hid rfl hl
              (.map (es ++ [(clock, ak, ofV zv)]) (clock + 1)) (by simp) (fun c hcne => Array.getElem?_setIfInBounds_ne (fun e => hcne e.symm)) (fun q hq => by simp [rowSize, hces] at hq) rfl rfl rfl
              (fun hmn => ⟨ces.push { key := rk, val := zv, born := clock }, by simp [heap_lt hces], by
                rw [Array.toList_push]
                exact (hal.mono hmn).push rfl (hk.mono hmn) (rep_const z2 _ _)⟩)
            refine ⟨E, _, .tuple #[zv, goInt clock], hw.1, hw.2, rep_pair (rep_const z2 _ _) (.c rfl), .inl ?_⟩
            simp only [Instr.mapEntry, Sem.run_bind, run_underlying hu, Result.andThen_ok, hget, hckr, hfk, Option.map_none, hset, hzr, Sem.run_pure]
          · cases h
        · cases h
      · cases h
    · cases h
  · cases h

theorem AlE.findIdx {w : World} {E : En} {n : Int} : ∀ {es : List (Nat × AV × AV)} {cs : List MapEntry}, AlE w E es cs → cs.findIdx? (fun e => (e.born : Int) == n) = es.findIdx? (fun e => (e.1 : Int) == n)
  | [], [], _ => rfl
  | e :: es, c :: cs, h => by
    simp only [List.findIdx?_cons]
    rw [h.1, AlE.findIdx h.2.2.2]
  | [], _ :: _, h => h.elim
  | _ :: _, [], h => h.elim

theorem opv_entryStore {t : TypeId} {m s x : Operand} (ho : o.op = .entryStore t m s x) {r : AR} (h : aEntryStore (ev ts m) (ev ts s) (ev ts x) H = some r) (hC : r.c) : OpV P G n o ts H r.v r.H := by
  intro E w tmps hH hT hok D
  have hall : ∀ y, y ∈ (#[m, s, x] : Array Operand) → opdOk n y = true := fun y hy => by
    simp only [operOk, ho, Op.operands, Bool.and_eq_true] at hok
    exact (Array.all_eq_true'.1 hok.2) y hy
  have hm := rep_ev hT (hall m (by simp)) D
  have hs := rep_ev hT (hall s (by simp)) D
  have hx := rep_ev hT (hall x (by simp)) D
  have hexec : execOp (Act.eval ⟨tmps, D⟩) o = (do Instr.entryStore t (Act.eval ⟨tmps, D⟩ m) (Act.eval ⟨tmps, D⟩ s) (Act.eval ⟨tmps, D⟩ x); pure .skip) := by
    simp [execOp, ho]
  rw [hexec]
  generalize Act.eval ⟨tmps, D⟩ m = rm at hm
  generalize Act.eval ⟨tmps, D⟩ s = rs at hs
  generalize Act.eval ⟨tmps, D⟩ x = rx at hx
  generalize ev ts m = am at hm h
  generalize ev ts s = as at hs h
  generalize ev ts x = ax at hx h
  unfold aEntryStore at h
  split at h
  · rename_i id k n hn
    have := rep_int hs hn
    subst this
    split at h
    · rename_i es clock hid
      split at h
      · rename_i i hf
        cases h
        cases hm with | @mp _ l hl =>
        obtain ⟨l', hl', ces, hces, hal⟩ := hH.obj id _ hid rfl
        rw [hl] at hl'; cases hl'
        have hi : i < es.length := by
          have := List.findIdx?_eq_some_iff_findIdx_eq.1 hf
          exact this.1
        have hic : i < ces.size := by have := hal.length; simp at this; omega
        have hfc : ces.findIdx? (fun e => (e.born : Int) == n) = some i := by
          have e0 : ces = ces.toList.toArray := by simp
          rw [e0, List.findIdx?_toArray, hal.findIdx]; exact hf
        have hget : (getObj l.b).run P w = .ok (.map ces clock) w := by simp [getObj, Sem.run, hces]
        obtain ⟨q1, q2, q3⟩ := hal.get i hi
        have hcg : ces.toList.getD i default = ces[i] := by simp [List.getD, hic]
        have hset : (setObj l.b (.map (ces.modify i fun e => { e with val := rx }) clock)).run P w = .ok () { w with heap := w.heap.setIfInBounds l.b (.map (ces.modify i fun e => { e with val := rx }) clock) } := by
          simp [setObj, Sem.run, hces]
        have hmod : ces.modify i (fun e => { e with val := rx }) = ces.modify i (fun e => { e with key := ces[i].key, val := rx }) := by
          apply Array.ext (by simp)
          intro j h1 h2
          simp only [Array.getElem_modify]
          split
          · rename_i e; subst e; rfl
          · rfl
        have hw := rel_write hH (w' := { w with heap := w.heap.setIfInBounds l.b (.map (ces.modify i fun e => { e with val := rx }) clock) }) hid rfl hl
          (.map (es.set i ((es.getD i default).1, (es.getD i default).2.1, ax)) clock) (by simp) (fun c hcne => Array.getElem?_setIfInBounds_ne (fun e => hcne e.symm)) (fun q hq => by simp [rowSize, hces] at hq) rfl rfl rfl
          (fun hmn => ⟨ces.modify i fun e => { e with val := rx }, by simp [heap_lt hces], by
            rw [hmod, Array.toList_modify]
            rw [hcg] at q2
            exact (hal.mono hmn).modify i hi (q2.mono hmn) (hx.mono hmn)⟩)
        refine ⟨E, _, undef, hw.1, hw.2, .tup (vs := #[]) rfl (fun i hi => by simp at hi), .inr ⟨?_, rfl⟩⟩
        simp only [Instr.entryStore, Sem.run_bind, hget, Result.andThen_ok, asInt, asIntOf, Sem.run_pure, hfc, hset]
      · cases h
    · cases h
  · cases h
end
end Go.Ab
