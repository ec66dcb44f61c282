/-
  The operations are sound, continued: make, slice expressions, len; all in one.
-/
import Derived.Test.YtchodnhlkdlgmaaGreatDoorEvFb
set_option linter.unusedVariables false
set_option linter.unusedSimpArgs false
namespace Go.Ab
section
variable {P : Program} {G : Gl} {n : Nat} {o : Oper} {ts : Nat → AV} {H H' : List AO} {v : AV} {C : Prop}

theorem wrap_i64 {x : Int} (h1 : -9223372036854775808 ≤ x) (h2 : x < 9223372036854775808) : IntKind.i64.wrap x = x := by
  have e1 : (2 : Int) ^ IntKind.i64.bits = 18446744073709551616 := rfl
  have e2 : (2 : Int) ^ (IntKind.i64.bits - 1) = 9223372036854775808 := rfl
  have e3 : IntKind.i64.signed = true := rfl
  unfold IntKind.wrap
  simp only [e1, e2, e3, Bool.true_and, decide_eq_true_eq]
  split <;> omega

theorem bytesT_run {t : TypeId} {m : Nat} (h : bytesT P t = some m) (w : World) : ∃ i, (typeInfo t).run P w = .ok i w ∧ i.bytes = m := by
  unfold bytesT at h
  cases hi : P.info? t with
  | none => rw [hi] at h; cases h
  | some i => rw [hi] at h; simp at h; exact ⟨i, by simp [typeInfo, hi], h⟩

theorem askRoom_run (k : Nat) (w : World) : (askRoom k).run P w = .ok () w := by
  unfold askRoom
  split <;> rfl

theorem opv_makeSlice {t : TypeId} {l c : Operand} (ho : o.op = .makeSlice t l c) {elem : TypeId} (hu : P.underlying t = some (.slice elem)) {k1 k2 : IntKind} {m q : Int} (hl : aInt (ev ts l) = some (k1, m)) (hc : aInt (ev ts c) = some (k2, q))
    {z : AV} (hz : zeroEl P elem = some z) {by' : Nat} (hb : bytesT P elem = some by') (hC : 0 ≤ m ∧ m = q ∧ by' * m ≤ 2 ^ 40 ∧ m ≤ 2 ^ 40) :
    OpV P G n o ts H (slv H.length m.toNat) (H ++ [.arr z.cells.length (List.replicate m.toNat z)]) := by
  intro E w tmps hH hT hok D
  obtain ⟨q1, q2⟩ := opd2 (by rw [ho]; rfl) hok
  have hl' := rep_int (rep_ev hT q1 D) hl
  have hc' := rep_int (rep_ev hT q2 D) hc
  obtain ⟨h0, rfl, hb1, hb2⟩ := hC
  obtain ⟨zv, hzv, hzc, rfl, hs, hpos⟩ := zeroEl_inv hz
  obtain ⟨h1, _⟩ := zero_rep hzc w E
  obtain ⟨E', g1, g2, g3, g4⟩ := newRow_rep (P := P) hH elem (repR_zero hzc w E m.toNat) hpos m.toNat (by simp)
  have g4' : RepV (w.alloc (.cells ((Array.range (m.toNat * zv.cells.size)).map (fun q => zv.cells[q % zv.cells.size]!)) elem)) E' (slv H.length m.toNat) (.slice (some ⟨w.heap.size, 0, none⟩) m.toNat m.toNat) := by
    cases hm : m.toNat with
    | zero => exact .zs
    | succ j => rw [hm] at g4; exact g4
  refine ⟨E', _, _, g2, g3, g4', .inl ?_⟩
  obtain ⟨info, hi, hib⟩ := bytesT_run (P := P) hb w
  have hw : IntKind.i64.wrap m = m := wrap_i64 (by omega) (by omega)
  have hzr := zeroValue_run (P := P) hzv w
  have hbig : ¬ ((by' : Int) * m > 2 ^ 48) := by omega
  rw [h1] at g1
  by_cases h00 : m.toNat = 0
  · have e : ((Array.range (m.toNat * (ofV zv).cells.length)).map (fun q => zv.cells[q % (ofV zv).cells.length]!)) = #[] := by simp [h00]
    rw [e] at g1
    simp only [execOp, ho, hl', hc', Instr.makeSlice, Sem.run_bind, run_underlying hu, Result.andThen_ok, asInt, asIntOf, Sem.run_pure, hi, hib, hw]
    rw [if_neg (by simp [hbig]; omega)]
    simp only [Sem.run_bind, askRoom_run, Result.andThen_ok, szT_run hs]
    rw [if_pos (by simp [h00])]
    simp only [Sem.run_pure, Result.andThen_ok, h00, Nat.zero_mul]
    have e2 : ∀ z : Array Value, ((Array.range 0).map (fun q => z[q % z.size]!)) = #[] := fun z => by simp
    simp only [Sem.run_bind, Sem.run_pure, Result.andThen_ok, e2, g1]
  · have hne : ¬ m.toNat * (ofV zv).cells.length = 0 := by
      have := Nat.mul_pos (Nat.pos_of_ne_zero h00) hpos; omega
    simp only [execOp, ho, hl', hc', Instr.makeSlice, Sem.run_bind, run_underlying hu, Result.andThen_ok, asInt, asIntOf, Sem.run_pure, hi, hib, hw]
    rw [if_neg (by simp [hbig]; omega)]
    simp only [Sem.run_bind, askRoom_run, Result.andThen_ok, szT_run hs]
    rw [if_neg hne]
    simp only [Sem.run_bind, hzr, Result.andThen_ok, Sem.run_pure, h1, g1]

/-! ### Slice expressions -/

theorem aBound_run {w : World} {E : En} {d : Nat} {c : Prop} {m : Nat} : ∀ {x : Option AV} {r : Option Value}, aBound d x = some (c, m) → c → (∀ v, x = some v → ∃ u, r = some u ∧ RepV w E v u) → (x = none → r = none) →
    (r = none ∧ m = d) ∨ (∃ k i, r = some (.int k i) ∧ 0 ≤ i ∧ m = i.toNat)
  | none, r, h, hc, h1, h2 => by simp only [aBound] at h; cases h; exact .inl ⟨h2 rfl, rfl⟩
  | some v, r, h, hc, h1, h2 => by
    simp only [aBound] at h
    obtain ⟨u, rfl, hu⟩ := h1 v rfl
    cases hi : aInt v with
    | none => rw [hi] at h; cases h
    | some p =>
      obtain ⟨k, i⟩ := p
      rw [hi] at h
      simp only [Option.some.injEq, Prod.mk.injEq] at h
      obtain ⟨rfl, rfl⟩ := h
      exact .inr ⟨k, i, by rw [rep_int hu hi], hc, rfl⟩

theorem sliceBounds_run {lo hi : Option Value} {d l h cap : Nat} (hlo : (lo = none ∧ l = 0) ∨ (∃ k i, lo = some (.int k i) ∧ 0 ≤ i ∧ l = i.toNat)) (hhi : (hi = none ∧ h = d) ∨ (∃ k i, hi = some (.int k i) ∧ 0 ≤ i ∧ h = i.toNat))
    (h1 : l ≤ h) (h2 : h ≤ cap) (w : World) : (Instr.sliceBounds true d cap lo hi none).run P w = .ok (l, h, cap) w := by
  have hb : ∀ (k : IntKind) (i : Int) (y : Nat) (cd : BoundsCode), 0 ≤ i → i.toNat ≤ y → (Instr.sliceBound (.int k i) y cd).run P w = .ok i.toNat w := by
    intro k i y cd h0 hy
    have : 0 ≤ i ∧ i ≤ y := by omega
    simp only [Instr.sliceBound, asIntOf, Sem.run_bind, Sem.run_pure, Result.andThen_ok]
    rw [if_pos this]
    rfl
  rcases hlo with ⟨rfl, rfl⟩ | ⟨k, i, rfl, hi0, rfl⟩ <;> rcases hhi with ⟨rfl, rfl⟩ | ⟨k', i', rfl, hi0', rfl⟩
  · simp [Instr.sliceBounds, Sem.run_bind, Result.andThen]
  · simp [Instr.sliceBounds, Sem.run_bind, Result.andThen, hb k' i' cap _ hi0' h2]
  · simp [Instr.sliceBounds, Sem.run_bind, Result.andThen, hb k i _ _ hi0 h1]
  · simp [Instr.sliceBounds, Sem.run_bind, Result.andThen, hb k' i' cap _ hi0' h2, hb k i _ _ hi0 h1]

theorem sliceBounds_run' (sl : Bool) {lo hi : Option Value} {d l h cap : Nat} (hlo : (lo = none ∧ l = 0) ∨ (∃ k i, lo = some (.int k i) ∧ 0 ≤ i ∧ l = i.toNat)) (hhi : (hi = none ∧ h = d) ∨ (∃ k i, hi = some (.int k i) ∧ 0 ≤ i ∧ h = i.toNat))
    (h1 : l ≤ h) (h2 : h ≤ cap) (w : World) : (Instr.sliceBounds sl d cap lo hi none).run P w = .ok (l, h, cap) w := by
  have hb : ∀ (k : IntKind) (i : Int) (y : Nat) (cd : BoundsCode), 0 ≤ i → i.toNat ≤ y → (Instr.sliceBound (.int k i) y cd).run P w = .ok i.toNat w := by
    intro k i y cd h0 hy
    have : 0 ≤ i ∧ i ≤ y := by omega
    simp only [Instr.sliceBound, asIntOf, Sem.run_bind, Sem.run_pure, Result.andThen_ok]
    rw [if_pos this]
    rfl
  rcases hlo with ⟨rfl, rfl⟩ | ⟨k, i, rfl, hi0, rfl⟩ <;> rcases hhi with ⟨rfl, rfl⟩ | ⟨k', i', rfl, hi0', rfl⟩
  · simp [Instr.sliceBounds, Sem.run_bind, Result.andThen]
  · simp [Instr.sliceBounds, Sem.run_bind, Result.andThen, hb k' i' cap _ hi0' h2]
  · simp [Instr.sliceBounds, Sem.run_bind, Result.andThen, hb k i _ _ hi0 h1]
  · simp [Instr.sliceBounds, Sem.run_bind, Result.andThen, hb k' i' cap _ hi0' h2, hb k i _ _ hi0 h1]

theorem sliceBounds_max {lo hi : Option Value} {k : IntKind} {d l h cap : Nat} {q : Int} (hlo : (lo = none ∧ l = 0) ∨ (∃ k i, lo = some (.int k i) ∧ 0 ≤ i ∧ l = i.toNat)) (hhi : ∃ k i, hi = some (.int k i) ∧ 0 ≤ i ∧ h = i.toNat)
    (h0 : 0 ≤ q) (h1 : l ≤ h) (h2 : h ≤ q.toNat) (h3 : q.toNat ≤ cap) (w : World) : (Instr.sliceBounds true d cap lo hi (some (.int k q))).run P w = .ok (l, h, q.toNat) w := by
  have hb : ∀ (k : IntKind) (i : Int) (y : Nat) (cd : BoundsCode), 0 ≤ i → i.toNat ≤ y → (Instr.sliceBound (.int k i) y cd).run P w = .ok i.toNat w := by
    intro k i y cd h0 hy
    have : 0 ≤ i ∧ i ≤ y := by omega
    simp only [Instr.sliceBound, asIntOf, Sem.run_bind, Sem.run_pure, Result.andThen_ok]
    rw [if_pos this]
    rfl
  obtain ⟨k', i', rfl, hi0', rfl⟩ := hhi
  rcases hlo with ⟨rfl, rfl⟩ | ⟨k2, i, rfl, hi0, rfl⟩
  · simp [Instr.sliceBounds, Sem.run_bind, Result.andThen, hb k q cap _ h0 h3, hb k' i' _ _ hi0' h2]
  · simp [Instr.sliceBounds, Sem.run_bind, Result.andThen, hb k q cap _ h0 h3, hb k' i' _ _ hi0' h2, hb k2 i _ _ hi0 h1]

theorem opt_all {x : Option Operand} (h : x.toArray.all (opdOk n) = true) : ∀ y, x = some y → opdOk n y = true := by
  intro y hy; subst hy; simpa using h

theorem bound_lo {w : World} {E : En} {tmps : Array Value} (hT : RepT w E n ts tmps) {x : Option Operand} (hx : ∀ y, x = some y → opdOk n y = true) (D : List Deferred) :
    (∀ v, x.map (ev ts) = some v → ∃ u, x.map (Act.eval ⟨tmps, D⟩) = some u ∧ RepV w E v u) ∧ (x.map (ev ts) = none → x.map (Act.eval ⟨tmps, D⟩) = none) := by
  cases x with
  | none => exact ⟨fun v h => (by cases h), fun _ => rfl⟩
  | some y => exact ⟨fun v h => (by cases h; exact ⟨_, rfl, rep_ev hT (hx y rfl) D⟩), fun h => (by cases h)⟩

theorem getD_take_drop_isl {es : List AV} {l h i : Nat} (hh : h ≤ es.length) (hi : i < h - l) : ((es.drop l).take (h - l)).getD i .un = es.getD (l + i) .un :=
  getD_drop_take es .un l (h - l) i hi (by omega)

theorem bound_inv {d : Nat} {x : Option AV} {c : Prop} {m : Nat} (h : aBound d x = some (c, m)) {w : World} {E : En} {r : Option Value} (h1 : (∀ v, x = some v → ∃ u, r = some u ∧ RepV w E v u) ∧ (x = none → r = none)) (hc : c) :
    (r = none ∧ m = d) ∨ (∃ k i, r = some (.int k i) ∧ 0 ≤ i ∧ m = i.toNat) := aBound_run h hc h1.1 h1.2

theorem max_inv {x : Option AV} {k : IntKind} {i : Int} (h : x.bind aInt = some (k, i)) {w : World} {E : En} {r : Option Value} (h1 : (∀ v, x = some v → ∃ u, r = some u ∧ RepV w E v u) ∧ (x = none → r = none)) : r = some (.int k i) := by
  cases x with
  | none => cases h
  | some v =>
    obtain ⟨u, rfl, hu⟩ := h1.1 v rfl
    rw [rep_int hu h]

theorem opv_slice {t : TypeId} {x : Operand} {lo hi mx : Option Operand} (ho : o.op = .slice t x lo hi mx) (h : aSlice P t (ev ts x) H (lo.map (ev ts)) (hi.map (ev ts)) (mx.map (ev ts)) = some (C, v)) (hC : C) : OpV P G n o ts H v H := by
  have hopd : operOk n o = true → opdOk n x = true ∧ (∀ y, lo = some y → opdOk n y = true) ∧ (∀ y, hi = some y → opdOk n y = true) ∧ (∀ y, mx = some y → opdOk n y = true) := by
    intro hok
    simp only [operOk, ho, Op.operands, Bool.and_eq_true, Array.all_append] at hok
    have h2 := hok.2
    exact ⟨by simpa using h2.1.1.1, opt_all h2.1.1.2, opt_all h2.1.2, opt_all h2.2⟩
  refine OpV.pure fun E w tmps hH hT hok D => ?_
  obtain ⟨k0, k1, k2, k3⟩ := hopd hok
  have hx := rep_ev hT k0 D
  have hlo := bound_lo hT k1 D
  have hhi := bound_lo hT k2 D
  have hmx := bound_lo hT k3 D
  generalize hr0 : Act.eval ⟨tmps, D⟩ x = r0 at hx
  generalize hev : ev ts x = a at hx h
  generalize hel : lo.map (Act.eval ⟨tmps, D⟩) = rl at hlo
  generalize heh : hi.map (Act.eval ⟨tmps, D⟩) = rh at hhi
  generalize hem : mx.map (Act.eval ⟨tmps, D⟩) = rm at hmx
  have hexec : execOp (Act.eval ⟨tmps, D⟩) o = (do pure (.value (← Instr.sliceAt t r0 rl rh rm))) := by
    simp only [execOp, ho, hr0, hel, heh, hem]
  have hrun : ∀ (sv : Value) (e : TypeId), P.underlying t = some (.slice e) → (Instr.slice t r0 rl rh rm).run P w = .ok sv w → (execOp (Act.eval ⟨tmps, D⟩) o).run P w = .ok (.value sv) w := by
    intro sv e hu hs
    simp only [hexec, Instr.sliceAt, Sem.run_bind, run_underlying hu, Result.andThen_ok, hs, Sem.run_pure]
  unfold aSlice at h
  split at h
  · rename_i elem id st len cap hu hmxe
    obtain rfl := hmx.2 hmxe
    split at h
    · rename_i sz sz' es c1 l c2 hh hsz hob hb1 hb2
      split at h
      · rename_i heq
        subst heq
        simp only [Option.some.injEq, Prod.mk.injEq] at h
        obtain ⟨rfl, rfl⟩ := h
        obtain ⟨hc1, hc2, hlh, hhc⟩ := hC
        have g1 := bound_inv hb1 hlo hc1
        have g2 := bound_inv hb2 hhi hc2
        cases hx with
        | sl hl h1 h2 h3 =>
          rename_i lc ad cc
          obtain ⟨l', hl', hz, _⟩ := hH.obj id _ hob rfl
          rw [hl] at hl'; cases hl'
          have hsb := sliceBounds_run (P := P) g1 g2 hlh (Nat.le_trans hhc h2) w
          refine ⟨.slice (some (if cc = l then ad else ad.add (l * sz'))) (hh - l) (cc - l), .sl hl (by omega) (by omega) (fun hcl => ?_), hrun _ _ hu ?_⟩
          · obtain ⟨rfl, n', hn', hle⟩ := h3 (by omega)
            rw [if_neg (by omega)]
            refine ⟨by rw [addr_add, Nat.add_mul, Nat.add_assoc, hz], n', hn', ?_⟩
            rw [show st + l + (cc - l) = st + cc by omega]; exact hle
          · simp only [Instr.slice, Sem.run_bind, run_underlying hu, Result.andThen_ok, hsb, szT_run hsz, Sem.run_pure]
            congr 2
            split <;> rfl
      · cases h
    · cases h
  · rename_i elem es hu hmxe
    obtain rfl := hmx.2 hmxe
    split at h
    · rename_i sz c1 l c2 hh hsz hb1 hb2
      simp only [Option.some.injEq, Prod.mk.injEq] at h
      obtain ⟨rfl, rfl⟩ := h
      obtain ⟨hc1, hc2, hlh, hhc, hcell⟩ := hC
      have g1 := bound_inv hb1 hlo hc1
      have g2 := bound_inv hb2 hhi hc2
      cases hx with
      | isl hf hcc he hcl hc hr =>
        rename_i ad cc sz' f
        have hsb := sliceBounds_run (P := P) g1 g2 hlh (Nat.le_trans hhc hcc) w
        have hlen : ((es.drop l).take (hh - l)).length = hh - l := by simp; omega
        have hzz : l < hh → sz' = sz := fun hlt => by rw [← hcell hlt, ← (he l (by omega)).2]
        have hrep : RepV w E (.isl ((es.drop l).take (hh - l))) (.slice (some (if cc = l then ad else ad.add (l * sz))) ((es.drop l).take (hh - l)).length (cc - l)) := by
          have hadd : l < hh → (if cc = l then ad else ad.add (l * sz)) = ⟨ad.block, ad.off + l * sz, none⟩ := fun hlt => by
            rw [if_neg (by omega)]
            obtain ⟨b, off, sp⟩ := ad
            obtain rfl : sp = none := (hf (by omega)).2
            exact addr_add _ _ _
          refine .isl (f := fun i j => f (l + i) j) (sz := sz') (fun h0 => by rw [hlen] at h0; rw [hadd (by omega)]; exact ⟨(hf (by omega)).1, rfl⟩) (by rw [hlen]; omega) (fun i hi => ?_) (fun i j hi hj => ?_) (fun i j hi hj => ?_) (fun i j hi hj => ?_)
          · rw [hlen] at hi; rw [getD_take_drop_isl hhc hi]; exact he _ (by omega)
          · rw [hlen] at hi
            have h5 := hzz (by omega)
            subst h5
            have h6 := hcl (l + i) j (by omega) hj
            rw [hadd (by omega)]
            rw [show ad.off + l * sz' + i * sz' + j = ad.off + (l + i) * sz' + j by rw [Nat.add_mul]; omega]
            exact h6
          · rw [hlen] at hi; rw [getD_take_drop_isl hhc hi]; exact hc _ j (by omega) hj
          · rw [hlen] at hi; rw [getD_take_drop_isl hhc hi]; exact hr _ j (by omega) hj
        rw [hlen] at hrep
        refine ⟨_, hrep, hrun _ _ hu ?_⟩
        simp only [Instr.slice, Sem.run_bind, run_underlying hu, Result.andThen_ok, hsb, szT_run hsz, Sem.run_pure]
        congr 2
        split <;> rfl
    · cases h
  · rename_i elem hu hmxe
    obtain rfl := hmx.2 hmxe
    have hr0' := hx.c_inv
    subst hr0'
    split at h
    · rename_i sz c1 l c2 hh hsz hb1 hb2
      simp only [Option.some.injEq, Prod.mk.injEq] at h
      obtain ⟨rfl, rfl⟩ := h
      obtain ⟨hc1, hc2, hlh, hhc⟩ := hC
      have g1 := bound_inv hb1 hlo hc1
      have g2 := bound_inv hb2 hhi hc2
      have hsb := sliceBounds_run (P := P) g1 g2 hlh hhc w
      refine ⟨_, .c rfl, hrun _ _ hu ?_⟩
      simp only [Instr.slice, Sem.run_bind, run_underlying hu, Result.andThen_ok, hsb, szT_run hsz, Sem.run_pure]
      have : l = 0 ∧ hh = 0 := by omega
      obtain ⟨rfl, rfl⟩ := this
      rfl
    · cases h
  · rename_i elem hu hmxe
    obtain rfl := hmx.2 hmxe
    split at h
    · rename_i sz c1 l c2 hh hsz hb1 hb2
      simp only [Option.some.injEq, Prod.mk.injEq] at h
      obtain ⟨rfl, rfl⟩ := h
      obtain ⟨hc1, hc2, hlh, hhc⟩ := hC
      have g1 := bound_inv hb1 hlo hc1
      have g2 := bound_inv hb2 hhi hc2
      have hsb := sliceBounds_run (P := P) g1 g2 hlh hhc w
      cases hx with
      | zs =>
        rename_i ad
        refine ⟨_, .zs (a := ad), hrun _ _ hu ?_⟩
        simp only [Instr.slice, Sem.run_bind, run_underlying hu, Result.andThen_ok, hsb, szT_run hsz, Sem.run_pure]
        have : l = 0 ∧ hh = 0 := by omega
        obtain ⟨rfl, rfl⟩ := this
        rfl
    · cases h
  · rename_i elem m hu hmxe
    have hr0' := hx.c_inv
    subst hr0'
    split at h
    · rename_i sz kq q c1 l kh hh hsz hq hb1 hb2
      simp only [Option.some.injEq, Prod.mk.injEq] at h
      obtain ⟨rfl, rfl⟩ := h
      obtain ⟨hc1, rfl, rfl, rfl⟩ := hC
      have g1 := bound_inv hb1 hlo hc1
      have g2 := max_inv hb2 hhi
      have g3 := max_inv (x := mx.map (ev ts)) (by rw [hmxe]; exact hq) hmx
      subst g2 g3
      have hsb := sliceBounds_max (P := P) (d := 0) (cap := 0) (hi := some (.int kh 0)) (h := 0) g1 ⟨kh, 0, rfl, Int.le_refl _, rfl⟩ (Int.le_refl 0) (k := kq) (q := 0) (by simp) (by simp) (by simp) w
      refine ⟨_, .c rfl, hrun _ _ hu ?_⟩
      simp only [Instr.slice, Sem.run_bind, run_underlying hu, Result.andThen_ok, hsb, szT_run hsz, Sem.run_pure]
      rfl
    · cases h
  · rename_i elem es m hu hmxe
    split at h
    · rename_i sz kq q c1 l kh hh hsz hq hb1 hb2
      simp only [Option.some.injEq, Prod.mk.injEq] at h
      obtain ⟨rfl, rfl⟩ := h
      obtain ⟨hc1, rfl, rfl, rfl⟩ := hC
      have g1 := bound_inv hb1 hlo hc1
      have g2 := max_inv hb2 hhi
      have g3 := max_inv (x := mx.map (ev ts)) (by rw [hmxe]; exact hq) hmx
      subst g2 g3
      cases hx with
      | isl hf hcc he hcl hc hr =>
        rename_i ad cc sz' f
        have hsb := sliceBounds_max (P := P) (d := es.length) (cap := cc) (hi := some (.int kh 0)) (h := 0) g1 ⟨kh, 0, rfl, Int.le_refl _, rfl⟩ (Int.le_refl 0) (k := kq) (q := 0) (by simp) (by simp) (by simp) w
        refine ⟨_, .zs (a := ad), hrun _ _ hu ?_⟩
        simp only [Instr.slice, Sem.run_bind, run_underlying hu, Result.andThen_ok, hsb, szT_run hsz, Sem.run_pure]
        rfl
    · cases h
  · rename_i elem id st len cap m hu hmxe
    split at h
    · rename_i sz kq q c1 l kh hh hsz hq hb1 hb2
      split at h
      · rename_i hq0
        subst hq0
        simp only [Option.some.injEq, Prod.mk.injEq] at h
        obtain ⟨rfl, rfl⟩ := h
        obtain ⟨hc1, rfl, rfl⟩ := hC
        have g1 := bound_inv hb1 hlo hc1
        have g2 := max_inv hb2 hhi
        have g3 := max_inv (x := mx.map (ev ts)) (by rw [hmxe]; exact hq) hmx
        subst g2 g3
        cases hx with
        | sl hl h1 h2 h3 =>
          rename_i lc ad cc
          have hsb := sliceBounds_max (P := P) (d := len) (cap := cc) (hi := some (.int kh 0)) (h := 0) g1 ⟨kh, 0, rfl, Int.le_refl _, rfl⟩ (Int.le_refl 0) (k := kq) (q := 0) (by simp) (by simp) (by simp) w
          refine ⟨_, .zs (a := ad), hrun _ _ hu ?_⟩
          simp only [Instr.slice, Sem.run_bind, run_underlying hu, Result.andThen_ok, hsb, szT_run hsz, Sem.run_pure]
          rfl
      · rename_i hq0
        split at h
        · rename_i sz' es hob
          split at h
          · rename_i heq
            subst heq
            simp only [Option.some.injEq, Prod.mk.injEq] at h
            obtain ⟨rfl, rfl⟩ := h
            obtain ⟨hc1, hh0, hlh, hhq, hqc⟩ := hC
            have e0 : 0 ≤ q := Int.le_trans hh0 hhq
            have e1 : hh.toNat ≤ q.toNat := Int.toNat_le_toNat hhq
            have e2 : q.toNat ≤ cap := by simpa using Int.toNat_le_toNat hqc
            have g1 := bound_inv hb1 hlo hc1
            have g2 := max_inv hb2 hhi
            have g3 := max_inv (x := mx.map (ev ts)) (by rw [hmxe]; exact hq) hmx
            subst g2 g3
            cases hx with
            | sl hl h1 h2 h3 =>
              rename_i lc ad cc
              obtain ⟨l', hl', hz, _⟩ := hH.obj id _ hob rfl
              rw [hl] at hl'; cases hl'
              have hsb := sliceBounds_max (P := P) (d := len) (cap := cc) (hi := some (.int kh hh)) (h := hh.toNat) g1 ⟨kh, hh, rfl, hh0, rfl⟩ e0 (k := kq) (q := q) hlh e1 (Nat.le_trans e2 h2) w
              refine ⟨.slice (some (if q.toNat = l then ad else ad.add (l * sz'))) (hh.toNat - l) (q.toNat - l), .sl hl (Nat.sub_le_sub_right e1 l) (Nat.le_refl _) (fun hcl => ?_), hrun _ _ hu ?_⟩
              · have hlt : l < q.toNat := Nat.lt_of_sub_pos hcl
                obtain ⟨rfl, n', hn', hle⟩ := h3 (Nat.lt_of_lt_of_le (Nat.lt_of_le_of_lt (Nat.zero_le _) hlt) e2)
                rw [if_neg (Nat.ne_of_gt hlt)]
                have e9 : st + l + (q.toNat - l) ≤ st + cc := by rw [Nat.add_assoc, Nat.add_sub_cancel' (Nat.le_of_lt hlt)]; exact Nat.add_le_add_left (Nat.le_trans e2 h2) st
                refine ⟨by rw [addr_add, Nat.add_mul, Nat.add_assoc, hz], n', hn', Nat.le_trans (Nat.add_le_add_left (Nat.mul_le_mul_right _ e9) _) hle⟩
              · simp only [Instr.slice, Sem.run_bind, run_underlying hu, Result.andThen_ok, hsb, szT_run hsz, Sem.run_pure]
                congr 2
                split <;> rfl
          · cases h
        · cases h
    · cases h
  · rename_i elem m hu hmxe
    split at h
    · rename_i sz kq q c1 l kh hh hsz hq hb1 hb2
      simp only [Option.some.injEq, Prod.mk.injEq] at h
      obtain ⟨rfl, rfl⟩ := h
      obtain ⟨hc1, rfl, rfl, rfl⟩ := hC
      have g1 := bound_inv hb1 hlo hc1
      have g2 := max_inv hb2 hhi
      have g3 := max_inv (x := mx.map (ev ts)) (by rw [hmxe]; exact hq) hmx
      subst g2 g3
      cases hx with
      | zs =>
        rename_i ad
        have hsb := sliceBounds_max (P := P) (d := 0) (cap := 0) (hi := some (.int kh 0)) (h := 0) g1 ⟨kh, 0, rfl, Int.le_refl _, rfl⟩ (Int.le_refl 0) (k := kq) (q := 0) (by simp) (by simp) (by simp) w
        refine ⟨_, .zs (a := ad), hrun _ _ hu ?_⟩
        simp only [Instr.slice, Sem.run_bind, run_underlying hu, Result.andThen_ok, hsb, szT_run hsz, Sem.run_pure]
        rfl
    · cases h
  · rename_i s hu hmxe
    obtain rfl := hmx.2 hmxe
    have hr0' := hx.c_inv
    subst hr0'
    split at h
    · rename_i c1 l c2 hh hb1 hb2
      simp only [Option.some.injEq, Prod.mk.injEq] at h
      obtain ⟨rfl, rfl⟩ := h
      obtain ⟨hc1, hc2, hlh, hhc⟩ := hC
      have g1 := bound_inv hb1 hlo hc1
      have g2 := bound_inv hb2 hhi hc2
      have hsb := sliceBounds_run' (P := P) false g1 g2 hlh hhc w
      refine ⟨_, .c rfl, ?_⟩
      simp only [hexec, Instr.sliceAt, Instr.slice, Sem.run_bind, run_underlying hu, Result.andThen_ok]
      simp only [Option.isSome_none, Bool.false_eq_true, if_false, Sem.run_bind, Sem.run_pure, Result.andThen_ok, hsb]
    · cases h
  · rename_i m elem id off hu hmxe
    obtain rfl := hmx.2 hmxe
    split at h
    · rename_i sz c1 l c2 hh hsz hb1 hb2
      simp only [Option.some.injEq, Prod.mk.injEq] at h
      obtain ⟨rfl, rfl⟩ := h
      obtain ⟨hc1, hc2, hlh, hhc, hor⟩ := hC
      have g1 := bound_inv hb1 hlo hc1
      have g2 := bound_inv hb2 hhi hc2
      have hsb := sliceBounds_run' (P := P) false g1 g2 hlh hhc w
      cases hx with
      | ptr hl =>
        rename_i lc
        refine ⟨.slice (some ⟨lc.b, lc.base + (off + l * sz), none⟩) (hh - l) (m - l), .bs hl (by omega), ?_⟩
        simp only [hexec, Instr.sliceAt, Sem.run_bind, run_underlying hu, Result.andThen_ok, Instr.sureAddr, Sem.run_pure, hsb, szT_run hsz]
        congr 3
        congr 2
        split
        · rename_i he
          have : l = 0 := by clear g1 g2 hsb; omega
          subst this
          simp
        · rw [addr_add, Nat.add_assoc]
    · cases h
  · rename_i m elem cs off hu hmxe
    obtain rfl := hmx.2 hmxe
    split at h
    · rename_i sz c1 l c2 hh hsz hb1 hb2
      simp only [Option.some.injEq, Prod.mk.injEq] at h
      obtain ⟨rfl, rfl⟩ := h
      obtain ⟨rfl, hc1, hc2, hlh, hhc, hle, hor⟩ := hC
      have g1 := bound_inv hb1 hlo hc1
      have g2 := bound_inv hb2 hhi hc2
      have hsb := sliceBounds_run' (P := P) false g1 g2 hlh hhc w
      cases hx with
      | iptr hf hcl hc hr =>
        rename_i b q f
        have hlen : ((cs.drop (off + l)).take (hh - l)).length = hh - l := by simp; omega
        have hg : ∀ i, i < hh - l → ((cs.drop (off + l)).take (hh - l)).getD i .un = cs.getD (off + l + i) .un := fun i hi => getD_drop_take cs .un (off + l) (hh - l) i hi (by omega)
        have hrep : RepV w E (.isl ((cs.drop (off + l)).take (hh - l))) (.slice (some ⟨b, q + (off + l), none⟩) ((cs.drop (off + l)).take (hh - l)).length (m - l)) := by
          refine .isl (f := fun i _ => f (off + l + i)) (sz := 1) (fun _ => ⟨hf, rfl⟩) (by rw [hlen]; omega) (fun i hi => ?_) (fun i j hi hj => ?_) (fun i j hi hj => ?_) (fun i j hi hj => ?_)
          · rw [hlen] at hi; rw [hg i hi]
            have := hc (off + l + i) (by omega)
            exact ⟨isEl_of_isCell this, by rw [cells_of_isCell this]; rfl⟩
          · rw [hlen] at hi
            have := hcl (off + l + i) (by omega)
            rw [show q + (off + l) + i * 1 + j = q + (off + l + i) by omega]
            exact this
          · rw [hlen] at hi; rw [hg i hi]
            have := hc (off + l + i) (by omega)
            rw [cells_of_isCell this]
            obtain rfl : j = 0 := by omega
            exact this
          · rw [hlen] at hi; rw [hg i hi]
            have h1 := hc (off + l + i) (by omega)
            rw [cells_of_isCell h1]
            obtain rfl : j = 0 := by omega
            exact hr (off + l + i) (by omega)
        rw [hlen] at hrep
        refine ⟨_, hrep, ?_⟩
        simp only [hexec, Instr.sliceAt, Sem.run_bind, run_underlying hu, Result.andThen_ok, Instr.sureAddr, Sem.run_pure, hsb, szT_run hsz]
        congr 3
        congr 2
        split
        · rename_i he
          have : l = 0 := by clear g1 g2 hsb; omega
          subst this
          simp
        · rw [addr_add, Nat.add_assoc, Nat.mul_one]
    · cases h
  · cases h

theorem opv_len {args : Array Operand} {tys : Array TypeId} (ho : o.op = .call { callee := .builtin .len, args := args, argTypes := tys }) {t : TypeId} {x : Operand} (ht : tys[0]? = some t) (hx0 : args[0]? = some x) {q : Int} (h : aLen P t (ev ts x) = some q) :
    OpV P G n o ts H (.c (.int .i64 q)) H :=
  OpV.pure fun E w tmps hH hT hok D => by
    have hx1 : opdOk n x = true := by
      simp only [operOk, ho, Op.operands, Call.operands, Bool.and_eq_true] at hok
      exact (Array.all_eq_true'.1 hok.2) x (by simp; exact Array.mem_of_getElem? hx0)
    have hx := rep_ev hT hx1 D
    refine ⟨_, .c rfl, ?_⟩
    have ha : (args.map (Act.eval ⟨tmps, D⟩))[0]? = some (Act.eval ⟨tmps, D⟩ x) := by simp [hx0]
    have hexec : execOp (Act.eval ⟨tmps, D⟩) o = (do pure (.value (← Builtin.len_ tys o.type (args.map (Act.eval ⟨tmps, D⟩))))) := by
      simp [execOp, ho, resolve, invoke, builtin]
    have hl : (Builtin.len_ tys o.type (args.map (Act.eval ⟨tmps, D⟩))).run P w = .ok (.int .i64 q) w := by
      unfold aLen at h
      simp only [Builtin.len_, ht, ha]
      generalize Act.eval ⟨tmps, D⟩ x = r0 at hx
      generalize ev ts x = a at hx h
      split at h <;> first
        | (cases h; done)
        | (cases h
           cases hx
           simp only [Sem.run_bind, run_underlying (by assumption) w, Result.andThen_ok]
           rfl)
    rw [hexec]
    simp only [Sem.run_bind, hl, Result.andThen_ok, Sem.run_pure]

end
end Go.Ab
