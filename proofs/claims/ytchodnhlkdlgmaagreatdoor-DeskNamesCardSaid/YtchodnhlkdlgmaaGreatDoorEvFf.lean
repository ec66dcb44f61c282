/-
  The operations are sound, continued: maps.
-/
import Derived.Test.YtchodnhlkdlgmaaGreatDoorEvFe
import Derived.Maps.RangeRun
import Derived.WideKeyRuns
set_option linter.unusedVariables false
set_option linter.unusedSimpArgs false
namespace Go.Ab
section
variable {P : Program} {G : Gl} {n : Nat} {o : Oper} {ts : Nat → AV} {H H' : List AO} {v : AV} {C : Prop}

/-! ### Keys -/

theorem ckF_sound {b : Bool} {w : World} {E : En} {d : Nat} (ih : ∀ {t : TypeId} {x : AV} {r : Value}, ckOk P d t x = true → RepV w E x r → (Instr.checkKey b d t r).run P w = .ok () w)
    {xs : List AV} {vs : Array Value} (hx : RepV w E (.agg xs) (.agg vs)) :
    ∀ (fs : List Field), ckF P (ckOk P d) xs fs = true →
      (forIn fs PUnit.unit fun (f : Field) (_ : PUnit) => (do
        if f.name ≠ "_" then do
          let a ← part f.type vs f.offset
          Instr.checkKey b d f.type a
          pure (ForInStep.yield PUnit.unit)
        else pure (ForInStep.yield PUnit.unit) : Sem _)).run P w = .ok PUnit.unit w
  | [], h => by simp
  | f :: fs, h => by
    simp only [ckF, Bool.and_eq_true] at h
    have e6 := ckF_sound ih hx fs h.2
    rw [List.forIn_cons]
    by_cases hn : f.name = "_"
    · simp only [hn, ne_eq, not_true_eq_false, if_false, Sem.run_bind, Sem.run_pure, Result.andThen_ok]
      exact e6
    · have h1 := h.1
      simp only [Bool.or_eq_true, beq_iff_eq, hn, false_or] at h1
      split at h1
      · rename_i a ha
        obtain ⟨ra, e1, e2⟩ := aPart_sound ha hx
        have e5 := ih h1 e2
        simp only [hn, ne_eq, not_false_eq_true, if_true, Sem.run_bind, Sem.run_pure, Result.andThen_ok, e1, e5]
        exact e6
      · cases h1

theorem ckA_sound {b : Bool} {w : World} {E : En} {d : Nat} {elem : TypeId} {n : Nat} (hn : szT P elem = some n) (ih : ∀ {x : AV} {r : Value}, ckOk P d elem x = true → RepV w E x r → (Instr.checkKey b d elem r).run P w = .ok () w)
    {xs : List AV} {vs : Array Value} (hx : RepV w E (.agg xs) (.agg vs)) :
    ∀ (m i : Nat), ckA P (ckOk P d elem) elem n xs i m = true →
      (forIn (List.range' i m) PUnit.unit fun (k : Nat) (_ : PUnit) => (do
        let s ← sizeOf elem
        let a ← part elem vs (k * s)
        Instr.checkKey b d elem a
        pure (ForInStep.yield PUnit.unit) : Sem _)).run P w = .ok PUnit.unit w
  | 0, i, h => by simp
  | m + 1, i, h => by
    simp only [ckA, Bool.and_eq_true] at h
    have e6 := ckA_sound hn ih hx m (i + 1) h.2
    have h1 := h.1
    split at h1
    · rename_i a ha
      obtain ⟨ra, e1, e2⟩ := aPart_sound ha hx
      have e5 := ih h1 e2
      rw [List.range'_succ, List.forIn_cons]
      simp only [Sem.run_bind, Sem.run_pure, Result.andThen_ok, szT_run hn, e1, e5]
      exact e6
    · cases h1

theorem ck_sound {b : Bool} {w : World} {E : En} : ∀ (d : Nat) {t : TypeId} {x : AV} {r : Value}, ckOk P d t x = true → RepV w E x r → (Instr.checkKey b d t r).run P w = .ok () w
  | 0, t, x, r, h, _ => by cases h
  | d + 1, t, x, r, h, hx => by
    simp only [ckOk] at h
    split at h
    · rename_i len elem cs hu
      split at h
      · rename_i n hn
        obtain ⟨vs, rfl, _⟩ := agg_inv hx
        have := ckA_sound (b := b) hn (fun h => ck_sound d h) hx len 0 h
        simp only [Instr.checkKey, Sem.run_bind, run_underlying hu, Result.andThen_ok]
        rw [Std.Legacy.Range.forIn_eq_forIn_range']
        have e := this
        simp [Std.Legacy.Range.size] at e ⊢
        rw [e]; rfl
      · cases h
    · rename_i fs cs hu
      obtain ⟨vs, rfl, _⟩ := agg_inv hx
      have := ckF_sound (b := b) (fun h => ck_sound d h) hx fs.toList h
      simp only [Instr.checkKey, Sem.run_bind, run_underlying hu, Result.andThen_ok]
      rw [← Array.forIn_toList]
      rw [this]; rfl
    · rename_i hu
      rw [hx.c_inv]
      simp [Instr.checkKey, run_underlying hu]
    · rename_i hu
      rw [hx.c_inv]
      simp [Instr.checkKey, run_underlying hu]
    · rename_i hu
      rw [hx.c_inv]
      simp [Instr.checkKey, run_underlying hu]
    · cases h

theorem findAsking_sound {w : World} {E : En} {kt : TypeId} {k : AV} {kv : Value} (hk : RepV w E k kv) : ∀ {es : List (Nat × AV × AV)} {cs : List MapEntry} {q : Option Nat} (i : Nat), AlE w E es cs → aFind P kt k es = some q →
    (Instr.findAsking kt kv cs i).run P w = .ok (q.map fun j => (i + j, (cs.getD j default).val)) w ∧ ∀ j, q = some j → j < es.length
  | [], [], q, i, _, h => by cases h; exact ⟨rfl, fun j hj => by cases hj⟩
  | e :: es, c :: cs, q, i, ha, h => by
    simp only [aFind] at h
    split at h
    · rename_i hq
      cases h
      have := aEq_sound 10000 hq hk ha.2.1
      refine ⟨?_, fun j hj => by cases hj; simp⟩
      simp [Instr.findAsking, Op.equal, Op.maxDepth, this]
    · rename_i hq
      cases hf : aFind P kt k es with
      | none => rw [hf] at h; cases h
      | some o =>
        rw [hf] at h; cases h
        have := aEq_sound 10000 hq hk ha.2.1
        obtain ⟨ih1, ih2⟩ := findAsking_sound hk (i + 1) ha.2.2.2 hf
        refine ⟨?_, fun j hj => ?_⟩
        · simp [Instr.findAsking, Op.equal, Op.maxDepth, this, ih1]
          cases o <;> simp
          omega
        · cases o with
          | none => cases hj
          | some o => simp at hj; have := ih2 o rfl; simp; omega
    · cases h
  | [], _ :: _, _, _, h, _ => h.elim
  | _ :: _, [], _, _, h, _ => h.elim

theorem run_equalIn_string9 {w : World} {kt : TypeId} {d : Nat} (hd : P.underlying kt = some .string) {a b : ByteArray} : (Op.equalIn (d + 1) kt (.string a) (.string b)).run P w = .ok (a == b) w := by
  simp [Op.equalIn, run_underlying hd]

theorem sameNow_sound {w : World} {E : En} {kt : TypeId} {d : TypeDesc} (hd : P.underlying kt = some d) {k k2 : AV} {kv kv2 : Value} (hk : RepV w E k kv) (hk2 : RepV w E k2 kv2) {b b' : Bool}
    (h : aEq P 10000 kt k k2 = some b) (h' : Instr.sameNow d kv kv2 = some b') : b = b' := by
  have h1 := aEq_sound 10000 h hk hk2
  have h2 : (Op.equalIn 10000 kt kv kv2).run P w = .ok b' w := by
    unfold Instr.sameNow at h'
    split at h'
    · split at h'
      · rename_i e; subst e; cases h'
        exact run_equalIn_int w 9999 kt _ _ _ _ hd
      · cases h'
    · cases h'; exact run_equalIn_string9 hd
    · cases h'; exact run_equalIn_bool' w 9999 kt _ _ hd
    · cases h'
  rw [h1] at h2
  injection h2

theorem findNow_sound {w : World} {E : En} {kt : TypeId} {d : TypeDesc} (hd : P.underlying kt = some d) {k : AV} {kv : Value} (hk : RepV w E k kv) : ∀ {es : List (Nat × AV × AV)} {cs : List MapEntry} {q : Option Nat} (i : Nat) {a : Option (Nat × Value)}, AlE w E es cs → aFind P kt k es = some q →
    Instr.findNow d kv cs i = some a → a = q.map fun j => (i + j, (cs.getD j default).val)
  | [], [], q, i, a, _, h, h' => by cases h; cases h'; rfl
  | e :: es, c :: cs, q, i, a, ha, h, h' => by
    simp only [aFind] at h
    simp only [Instr.findNow] at h'
    split at h'
    · rename_i hs
      cases h'
      split at h
      · cases h; simp
      · rename_i hq; have := sameNow_sound hd hk ha.2.1 hq hs; cases this
      · cases h
    · rename_i hs
      split at h
      · rename_i hq; have := sameNow_sound hd hk ha.2.1 hq hs; cases this
      · cases hf : aFind P kt k es with
        | none => rw [hf] at h; cases h
        | some o =>
          rw [hf] at h; cases h
          rw [findNow_sound hd hk (i + 1) ha.2.2.2 hf h']
          cases o <;> simp
          omega
      · cases h
    · cases h'
  | [], _ :: _, _, _, _, h, _, _ => h.elim
  | _ :: _, [], _, _, _, h, _, _ => h.elim

theorem findKey_sound {w : World} {E : En} {kt : TypeId} {d : TypeDesc} (hd : P.underlying kt = some d) {k : AV} {kv : Value} (hk : RepV w E k kv) {es : List (Nat × AV × AV)} {cs : List MapEntry} {q : Option Nat} (ha : AlE w E es cs) (h : aFind P kt k es = some q) :
    (Instr.findKey kt kv cs).run P w = .ok (q.map fun j => (j, (cs.getD j default).val)) w ∧ ∀ j, q = some j → j < es.length := by
  obtain ⟨h1, h2⟩ := findAsking_sound hk 0 ha h
  refine ⟨?_, h2⟩
  simp only [Nat.zero_add] at h1
  simp only [Instr.findKey, Sem.run_bind, run_underlying hd, Result.andThen_ok]
  cases hn : Instr.findNow d kv cs 0 with
  | some a =>
    have := findNow_sound hd hk 0 ha h hn
    simp only [Nat.zero_add] at this
    simp [this]
  | none => simp [h1]

theorem agg_inv2 {w : World} {E : En} {cs : List AV} {r : Value} (h : RepV w E (.agg cs) r) : ∃ vs, r = .agg vs ∧ vs.size = cs.length ∧ ∀ i, i < cs.length → (cs.getD i .un).isCell = true ∧ RepV w E (cs.getD i .un) (vs.getD i undef) := by
  cases h with
  | agg hl hc h => exact ⟨_, rfl, hl, fun i hi => ⟨hc i hi, h i hi⟩⟩

theorem flatC_inv {a : AV} (h : flatC a = true) : (∃ k q, a = .c (.int k q)) ∨ ∃ b, a = .c (.bool b) := by
  unfold flatC at h
  split at h
  · exact .inl ⟨_, _, rfl⟩
  · exact .inr ⟨_, rfl⟩
  · cases h
theorem flatC_eq {w w' : World} {E E' : En} {a : AV} (h : flatC a = true) {r s : Value} (hr : RepV w E a r) (hs : RepV w' E' a s) : r = s ∧ ∀ n, Instr.sameBits n r r = true := by
  rcases flatC_inv h with ⟨k, q, rfl⟩ | ⟨b, rfl⟩
  · rw [hr.c_inv, hs.c_inv]; exact ⟨rfl, fun n => by cases n <;> simp [Instr.sameBits]⟩
  · rw [hr.c_inv, hs.c_inv]; exact ⟨rfl, fun n => by cases n <;> simp [Instr.sameBits]⟩

theorem flat_eq {w : World} {E : En} {a : AV} (hf : flatA a = true) {r s : Value} (hr : RepV w E a r) (hs : RepV w E a s) : r = s ∧ Instr.sameBits 10000 r r = true := by
  by_cases hagg : ∃ cs, a = .agg cs
  · obtain ⟨cs, rfl⟩ := hagg
    obtain ⟨vs, rfl, hv1, hv2⟩ := agg_inv2 hr
    obtain ⟨us, rfl, hu1, hu2⟩ := agg_inv2 hs
    simp only [flatA, List.all_eq_true] at hf
    have key : ∀ i, i < cs.length → vs.getD i undef = us.getD i undef ∧ ∀ n, Instr.sameBits n (vs.getD i undef) (vs.getD i undef) = true := fun i hi => by
      have hg : cs.getD i .un = cs[i] := by simp [List.getD, hi]
      exact flatC_eq (hf (cs.getD i .un) (by rw [hg]; exact List.getElem_mem hi)) (hv2 i hi).2 (hu2 i hi).2
    refine ⟨?_, ?_⟩
    · congr 1
      refine Array.ext (by omega) (fun i h1 h2 => ?_)
      have := (key i (by omega)).1
      simpa [Array.getD, h1, h2] using this
    · show (vs.size == vs.size && (vs.toList.zip vs.toList).all fun p => Instr.sameBits 9999 p.1 p.2) = true
      simp only [beq_self_eq_true, Bool.true_and, List.all_eq_true]
      rintro ⟨x, y⟩ hxy
      obtain ⟨i, hi, he⟩ := List.getElem_of_mem hxy
      have hi' : i < vs.size := by simp at hi; exact hi
      simp only [List.getElem_zip, Array.getElem_toList, Prod.mk.injEq] at he
      obtain ⟨rfl, rfl⟩ := he
      have := (key i (by omega)).2 9999
      simpa [Array.getD, hi'] using this
  · have : flatC a = true := by cases a <;> first | exact hf | exact absurd ⟨_, rfl⟩ hagg
    have := flatC_eq this hr hs
    exact ⟨this.1, this.2 10000⟩

/-! ### The operations -/

theorem opv_makeMap {t : TypeId} (ho : o.op = .makeMap t none) : OpV P G n o ts H (.mp H.length) (H ++ [.map [] 0]) := by
  intro E w tmps hH hT hok D
  have hr := rel_alloc hH (.map #[] 0) (.map [] 0) ⟨w.heap.size, 0, 1⟩ rfl (fun E' hm _ => ⟨#[], getElem?_alloc_new w _, trivial⟩)
  exact ⟨_, _, .map (some w.heap.size), hr.1, hr.2.1, .mp hr.2.2, .inl (by simp [execOp, ho, Instr.makeMap, newObj, Sem.run_bind, Sem.run])⟩

theorem AlE.length {w : World} {E : En} : ∀ {es : List (Nat × AV × AV)} {cs : List MapEntry}, AlE w E es cs → es.length = cs.length
  | [], [], _ => rfl
  | e :: es, c :: cs, h => by simp [AlE.length h.2.2.2]
  | [], _ :: _, h => h.elim
  | _ :: _, [], h => h.elim
theorem AlE.get {w : World} {E : En} : ∀ {es : List (Nat × AV × AV)} {cs : List MapEntry} (i : Nat), AlE w E es cs → i < es.length →
    (cs.getD i default).born = (es.getD i default).1 ∧ RepV w E (es.getD i default).2.1 (cs.getD i default).key ∧ RepV w E (es.getD i default).2.2 (cs.getD i default).val
  | [], [], i, _, hi => by simp at hi
  | e :: es, c :: cs, 0, h, _ => ⟨h.1, h.2.1, h.2.2.1⟩
  | e :: es, c :: cs, i + 1, h, hi => by simpa using AlE.get i h.2.2.2 (by simpa using hi)
  | [], _ :: _, _, h, _ => h.elim
  | _ :: _, [], _, h, _ => h.elim
theorem AlE.modify {w : World} {E : En} : ∀ {es : List (Nat × AV × AV)} {cs : List MapEntry} (i : Nat) {k v : AV} {kr vr : Value}, AlE w E es cs → i < es.length → RepV w E k kr → RepV w E v vr →
    AlE w E (es.set i ((es.getD i default).1, k, v)) (cs.modify i fun e => { e with key := kr, val := vr })
  | [], [], i, _, _, _, _, h, hi, _, _ => by simp at hi
  | e :: es, c :: cs, 0, _, _, _, _, h, _, h1, h2 => ⟨h.1, h1, h2, h.2.2.2⟩
  | e :: es, c :: cs, i + 1, _, _, _, _, h, hi, h1, h2 => by
    have := AlE.modify i h.2.2.2 (by simpa using hi) h1 h2
    simp only [List.set_cons_succ, List.getD_cons_succ, List.modify_succ_cons]
    exact ⟨h.1, h.2.1, h.2.2.1, this⟩
  | [], _ :: _, _, _, _, _, _, h, _, _, _ => h.elim
  | _ :: _, [], _, _, _, _, _, h, _, _, _ => h.elim
theorem AlE.push {w : World} {E : En} : ∀ {es : List (Nat × AV × AV)} {cs : List MapEntry} {b : Nat} {k v : AV} {c : MapEntry}, AlE w E es cs → c.born = b → RepV w E k c.key → RepV w E v c.val → AlE w E (es ++ [(b, k, v)]) (cs ++ [c])
  | [], [], _, _, _, _, h, h1, h2, h3 => ⟨h1, h2, h3, trivial⟩
  | e :: es, c :: cs, _, _, _, _, h, h1, h2, h3 => ⟨h.1, h.2.1, h.2.2.1, AlE.push h.2.2.2 h1 h2 h3⟩
  | [], _ :: _, _, _, _, _, h, _, _, _ => h.elim
  | _ :: _, [], _, _, _, _, h, _, _, _ => h.elim
theorem AlE.find {w : World} {E : En} {s : Nat} : ∀ {es : List (Nat × AV × AV)} {cs : List MapEntry}, AlE w E es cs → ∀ {e : Nat × AV × AV}, es.find? (fun e => e.1 == s) = some e →
    ∃ c, cs.find? (fun c => c.born == s) = some c ∧ RepV w E e.2.1 c.key ∧ RepV w E e.2.2 c.val
  | [], [], _, e, h => by cases h
  | e0 :: es, c :: cs, h, e, hf => by
    simp only [List.find?_cons] at hf ⊢
    rw [h.1]
    split at hf
    · rename_i hs
      cases hf
      exact ⟨c, rfl, h.2.1, h.2.2.1⟩
    · exact AlE.find h.2.2.2 hf
  | [], _ :: _, h, _, _ => h.elim
  | _ :: _, [], h, _, _ => h.elim
theorem AlE.filter {w : World} {E : En} {p : Nat → Bool} : ∀ {es : List (Nat × AV × AV)} {cs : List MapEntry}, AlE w E es cs → AlE w E (es.filter fun e => p e.1) (cs.filter fun c => p c.born)
  | [], [], _ => trivial
  | e :: es, c :: cs, h => by
    simp only [List.filter_cons, h.1]
    cases p e.1
    · exact AlE.filter h.2.2.2
    · exact ⟨h.1, h.2.1, h.2.2.1, AlE.filter h.2.2.2⟩
  | [], _ :: _, h => h.elim
  | _ :: _, [], h => h.elim
theorem AlE.mem {w : World} {E : En} : ∀ {es : List (Nat × AV × AV)} {cs : List MapEntry}, AlE w E es cs → ∀ {c : MapEntry}, c ∈ cs → ∃ e ∈ es, c.born = e.1 ∧ RepV w E e.2.1 c.key ∧ RepV w E e.2.2 c.val
  | [], [], _, c, h => by cases h
  | e :: es, c0 :: cs, h, c, hc => by
    rcases List.mem_cons.1 hc with rfl | hc
    · exact ⟨e, by simp, h.1, h.2.1, h.2.2.1⟩
    · obtain ⟨e', h1, h2⟩ := AlE.mem h.2.2.2 hc
      exact ⟨e', by simp [h1], h2⟩
  | [], _ :: _, h, _, _ => h.elim
  | _ :: _, [], h, _, _ => h.elim

theorem opv_mapUpdate {t : TypeId} {m k x : Operand} (ho : o.op = .mapUpdate t m k x) {r : AR} (h : aMapUpdate P t (ev ts m) (ev ts k) (ev ts x) H = some r) (hC : r.c) : OpV P G n o ts H r.v r.H := by
  intro E w tmps hH hT hok D
  have hall : ∀ y, y ∈ (#[m, k, x] : Array Operand) → opdOk n y = true := fun y hy => by
    simp only [operOk, ho, Op.operands, Bool.and_eq_true] at hok
    exact (Array.all_eq_true'.1 hok.2) y hy
  have hm := rep_ev hT (hall m (by simp)) D
  have hk := rep_ev hT (hall k (by simp)) D
  have hx := rep_ev hT (hall x (by simp)) D
  have hexec : execOp (Act.eval ⟨tmps, D⟩) o = (do Instr.mapUpdate t (Act.eval ⟨tmps, D⟩ m) (Act.eval ⟨tmps, D⟩ k) (Act.eval ⟨tmps, D⟩ x); pure .skip) := by
    simp [execOp, ho]
  rw [hexec]
  generalize Act.eval ⟨tmps, D⟩ m = rm at hm
  generalize Act.eval ⟨tmps, D⟩ k = rk at hk
  generalize Act.eval ⟨tmps, D⟩ x = rx at hx
  generalize ev ts m = am at hm h
  generalize ev ts k = ak at hk h
  generalize ev ts x = ax at hx h
  unfold aMapUpdate at h
  split at h
  · rename_i kt et id hu
    split at h
    · rename_i es clock hid
      split at h
      · rename_i hcnd
        obtain ⟨hck, hfl⟩ := hcnd
        cases hm with | @mp _ l hl =>
        obtain ⟨l', hl', ces, hces, hal⟩ := hH.obj id _ hid rfl
        rw [hl] at hl'; cases hl'
        have hckr := ck_sound (b := false) 10000 hck hk
        have hkt : ∃ d, P.underlying kt = some d := by
          cases hd : P.underlying kt with
          | some d => exact ⟨d, rfl⟩
          | none => simp [ckOk, hd] at hck
        obtain ⟨d, hd⟩ := hkt
        have hget : (getObj l.b).run P w = .ok (.map ces clock) w := by simp [getObj, Sem.run, hces]
        split at h
        · rename_i i hf
          cases h
          obtain ⟨hfk, hlt⟩ := findKey_sound hd hk hal hf
          have hi := hlt i rfl
          have hic : i < ces.size := by have := hal.length; simp at this; omega
          obtain ⟨q1, q2, q3⟩ := hal.get i hi
          have hC' : (es.getD i default).2.1 = ak := hC
          rw [hC'] at q2
          have hsame := flat_eq hfl hk q2
          have hcg : ces.toList.getD i default = ces[i] := by simp [List.getD, hic]
          have hset : (setObj l.b (.map (ces.modify i fun e => { e with key := rk, val := rx }) clock)).run P w = .ok () { w with heap := w.heap.setIfInBounds l.b (.map (ces.modify i fun e => { e with key := rk, val := rx }) clock) } := by
            simp [setObj, Sem.run, hces]
          have hw := rel_write hH (w' := { w with heap := w.heap.setIfInBounds l.b (.map (ces.modify i fun e => { e with key := rk, val := rx }) clock) }) hid rfl hl
            (.map (es.set i ((es.getD i default).1, ak, ax)) clock) (by simp) (fun c hcne => Array.getElem?_setIfInBounds_ne (fun e => hcne e.symm)) (fun q hq => by simp [rowSize, hces] at hq) rfl rfl rfl
            (fun hmn => ⟨ces.modify i fun e => { e with key := rk, val := rx }, by simp [heap_lt hces], by
              rw [Array.toList_modify]
              exact (hal.mono hmn).modify i hi (hk.mono hmn) (hx.mono hmn)⟩)
          refine ⟨E, _, undef, hw.1, hw.2, .tup (vs := #[]) rfl (fun i hi => by simp at hi), .inr ⟨?_, rfl⟩⟩
          have hkey : (ces[i]?.map (·.key)).getD rk = rk := by
            rw [hcg] at hsame
            simp [hic, ← hsame.1]
          have hstay : (Instr.keyThatStays rk rk).run P w = .ok rk w := by simp [Instr.keyThatStays, hsame.2]
          simp only [Instr.mapUpdate, Sem.run_bind, run_underlying hu, Result.andThen_ok, hget, hckr, hfk, Option.map_some, hkey, hstay, hset, Sem.run_pure]
        · rename_i hf
          cases h
          obtain ⟨hfk, _⟩ := findKey_sound hd hk hal hf
          have hset : (setObj l.b (.map (ces.push { key := rk, val := rx, born := clock }) (clock + 1))).run P w = .ok () { w with heap := w.heap.setIfInBounds l.b (.map (ces.push { key := rk, val := rx, born := clock }) (clock + 1)) } := by
            simp [setObj, Sem.run, hces]
          have hw := rel_write hH (w' := { w with heap := w.heap.setIfInBounds l.b (.map (ces.push { key := rk, val := rx, born := clock }) (clock + 1)) }) hid rfl hl
            (.map (es ++ [(clock, ak, ax)]) (clock + 1)) (by simp) (fun c hcne => Array.getElem?_setIfInBounds_ne (fun e => hcne e.symm)) (fun q hq => by simp [rowSize, hces] at hq) rfl rfl rfl
            (fun hmn => ⟨ces.push { key := rk, val := rx, born := clock }, by simp [heap_lt hces], by
              rw [Array.toList_push]
              exact (hal.mono hmn).push rfl (hk.mono hmn) (hx.mono hmn)⟩)
          refine ⟨E, _, undef, hw.1, hw.2, .tup (vs := #[]) rfl (fun i hi => by simp at hi), .inr ⟨?_, rfl⟩⟩
          simp only [Instr.mapUpdate, Sem.run_bind, run_underlying hu, Result.andThen_ok, hget, hckr, hfk, Option.map_none, hset, Sem.run_pure]
        · cases h
      · cases h
    · cases h
  · cases h

theorem opv_lookup {t : TypeId} {m k : Operand} {cm : Bool} (ho : o.op = .lookup t m k cm) {r : AR} (h : aLookup P t (ev ts m) (ev ts k) cm H = some r) (hC : r.c) : OpV P G n o ts H r.v r.H := by
  intro E w tmps hH hT hok D
  have hall : ∀ y, y ∈ (#[m, k] : Array Operand) → opdOk n y = true := fun y hy => by
    simp only [operOk, ho, Op.operands, Bool.and_eq_true] at hok
    exact (Array.all_eq_true'.1 hok.2) y hy
  have hm := rep_ev hT (hall m (by simp)) D
  have hk := rep_ev hT (hall k (by simp)) D
  have hexec : execOp (Act.eval ⟨tmps, D⟩) o = (do pure (.value (← Instr.lookup t (Act.eval ⟨tmps, D⟩ m) (Act.eval ⟨tmps, D⟩ k) cm))) := by
    simp [execOp, ho]
  rw [hexec]
  generalize Act.eval ⟨tmps, D⟩ m = rm at hm
  generalize Act.eval ⟨tmps, D⟩ k = rk at hk
  generalize ev ts m = am at hm h
  generalize ev ts k = ak at hk h
  have hlk : ∀ {av : AV} {rv : Value} (b : Bool), RepV w E av rv → RepV w E (lkRes cm av b) (if cm = true then .tuple #[rv, .bool b] else rv) := fun {av rv} b hv => by
    cases cm with
    | true =>
      refine .tup (by simp) (fun i hi => ?_)
      match i with
      | 0 => exact hv
      | 1 => exact .c rfl
      | i + 2 => simp at hi; omega
    | false => exact hv
  have hz0 : ∀ {et : TypeId} {r : AR}, lkZero P et cm H = some r → ∃ zv, (zeroValue et).run P w = .ok zv w ∧ r.H = H ∧ RepV w E r.v (if cm = true then .tuple #[zv, .bool false] else zv) := fun {et r} h => by
    unfold lkZero at h
    split at h
    · rename_i z hz
      obtain ⟨zv, h1, ⟨h2, h3⟩, rfl, _⟩ := zeroEl_inv hz
      cases h
      exact ⟨zv, zeroValue_run h1 w, rfl, hlk false (rep_const h2 w E)⟩
    · cases h
  unfold aLookup at h
  split at h
  · rename_i kt et hu
    split at h
    · rename_i hck
      have hckr := fun b => ck_sound (b := b) 10000 hck hk
      have hkt : ∃ d, P.underlying kt = some d := by
        cases hd : P.underlying kt with
        | some d => exact ⟨d, rfl⟩
        | none => simp [ckOk, hd] at hck
      obtain ⟨d, hd⟩ := hkt
      split at h
      · rename_i id
        split at h
        · rename_i es clock hid
          cases hm with | @mp _ l hl =>
          obtain ⟨l', hl', ces, hces, hal⟩ := hH.obj id _ hid rfl
          rw [hl] at hl'; cases hl'
          have hget : (getObj l.b).run P w = .ok (.map ces clock) w := by simp [getObj, Sem.run, hces]
          split at h
          · rename_i i hf
            cases h
            obtain ⟨hfk, hlt⟩ := findKey_sound hd hk hal hf
            obtain ⟨q1, q2, q3⟩ := hal.get i (hlt i rfl)
            refine ⟨E, w, _, hH, Grow.refl _ _ _, hlk true q3, .inl ?_⟩
            simp only [Instr.lookup, Sem.run_bind, run_underlying hu, Result.andThen_ok, hget, hckr, hfk, Option.map_some, Sem.run_pure]
          · rename_i hf
            obtain ⟨hfk, _⟩ := findKey_sound hd hk hal hf
            obtain ⟨zv, z1, z2, z3⟩ := hz0 h
            rw [z2]
            refine ⟨E, w, _, hH, Grow.refl _ _ _, z3, .inl ?_⟩
            simp only [Instr.lookup, Sem.run_bind, run_underlying hu, Result.andThen_ok, hget, hckr, hfk, Option.map_none, z1, Sem.run_pure]
          · cases h
        · cases h
      · have hmn := hm.c_inv
        subst hmn
        obtain ⟨zv, z1, z2, z3⟩ := hz0 h
        rw [z2]
        refine ⟨E, w, _, hH, Grow.refl _ _ _, z3, .inl ?_⟩
        have hfk : (Instr.findKey kt rk []).run P w = .ok none w := by simp [Instr.findKey, Sem.run_bind, run_underlying hd, Instr.findNow]
        simp only [Instr.lookup, Sem.run_bind, run_underlying hu, Result.andThen_ok, hckr, hfk, z1, Sem.run_pure]
      · cases h
    · cases h
  · cases h

theorem opv_range {t : TypeId} {x : Operand} (ho : o.op = .range t x) {r : AR} (h : aRange P t (ev ts x) H = some r) (hC : r.c) : OpV P G n o ts H r.v r.H := by
  intro E w tmps hH hT hok D
  have hx := rep_ev hT (opd1 (by rw [ho]; rfl) hok) D
  have hexec : execOp (Act.eval ⟨tmps, D⟩) o = (do pure (.value (← Instr.range t (Act.eval ⟨tmps, D⟩ x)))) := by simp [execOp, ho]
  rw [hexec]
  generalize Act.eval ⟨tmps, D⟩ x = rx at hx
  generalize ev ts x = ax at hx h
  unfold aRange at h
  split at h
  · rename_i kt et id hu
    split at h
    · rename_i es clock hid
      cases h
      cases hx with | @mp _ l hl =>
      obtain ⟨l', hl', ces, hces, hal⟩ := hH.obj id _ hid rfl
      rw [hl] at hl'; cases hl'
      have hr := rel_alloc hH (.mapIter (some l.b) clock #[] clock) (.mit id clock [] clock) ⟨w.heap.size, 0, 1⟩ rfl (fun E' hm _ => ⟨l, rfl, hm.loc _ _ hl, getElem?_alloc_new w _⟩)
      exact ⟨_, _, _, hr.1, hr.2.1, .ptr hr.2.2, .inl (by
        simp only [Sem.run_bind, run_range_map w t kt et l.b ces clock hu hces, Result.andThen_ok, Sem.run_pure])⟩
    · cases h
  · cases h

theorem opv_entry {x : Operand} (ho : o.op = .entry x) {r : AR} (h : aEntry (ev ts x) H = some r) (hC : r.c) : OpV P G n o ts H r.v r.H := by
  intro E w tmps hH hT hok D
  have hx := rep_ev hT (opd1 (by rw [ho]; rfl) hok) D
  have hexec : execOp (Act.eval ⟨tmps, D⟩) o = (do pure (.value (← Instr.entry (Act.eval ⟨tmps, D⟩ x)))) := by simp [execOp, ho]
  rw [hexec]
  generalize Act.eval ⟨tmps, D⟩ x = rx at hx
  generalize ev ts x = ax at hx h
  unfold aEntry at h
  split at h
  · rename_i id
    split at h
    · rename_i mid since seen stepped hid
      split at h
      · rename_i stamp es clock hlast hmid
        split at h
        · rename_i hcl
          split at h
          · rename_i e he
            cases h
            cases hx with | @ptr _ _ l hl =>
            obtain ⟨l', hl', lm, hb0, hlm, hit⟩ := hH.obj id _ hid rfl
            rw [hl] at hl'; cases hl'
            obtain ⟨lm', hlm', ces, hces, hal⟩ := hH.obj mid _ hmid rfl
            rw [hlm] at hlm'; cases hlm'
            obtain ⟨c, hc, hk, hv⟩ := hal.find he
            have hback : seen.toArray.back? = some stamp := by simpa using hlast
            have hfind : ces.find? (fun c => c.born == stamp) = some c := by rw [← Array.find?_toList]; exact hc
            refine ⟨E, w, .tuple #[c.key, c.val], hH, Grow.refl _ _ _, .tup (by simp) (fun i hi => ?_), .inl ?_⟩
            · rcases i with _ | _ | i
              · exact hk
              · exact hv
              · exact absurd hi (by simp)
            · simp only [hb0, Nat.zero_add, Instr.entry, getObj, Sem.run_bind, Sem.run, hit, hces, hback, Result.andThen, hcl, bne_self_eq_false, Bool.false_eq_true, if_false, hfind]
              rfl
          · cases h
        · cases h
      · cases h
    · cases h
  · cases h

/-- The next entry of a map, whichever it is. -/
theorem OpS.next {x : Operand} (ho : o.op = .next x false) {id mid since clock : Nat} {seen : List Nat} {cands : List (Nat × AV × AV)} (h : aNext (ev ts x) H = some (id, mid, since, seen, clock, cands)) {K : AV → List AO → Prop}
    (h0 : cands = [] → K (.tup [.c (.bool false)]) H) (h1 : ∀ e ∈ cands, K (.tup [.c (.bool true), e.2.1, e.2.2]) (H.set id (.mit mid since (seen ++ [e.1]) clock))) : OpS P G n o ts H K := by
  intro E w tmps hH hT hok D c cs
  have hx := rep_ev hT (opd1 (by rw [ho]; rfl) hok) D
  have hexec : execOp (Act.eval ⟨tmps, D⟩) o = (do pure (.value (← Instr.next (Act.eval ⟨tmps, D⟩ x) false o.type))) := by simp [execOp, ho]
  generalize Act.eval ⟨tmps, D⟩ x = rx at hx hexec
  generalize ev ts x = ax at hx h
  unfold aNext at h
  split at h
  · rename_i id'
    split at h
    · rename_i mid' since' seen' stepped hid
      split at h
      · rename_i es clock' hmid
        split at h
        · rename_i hcnd
          cases h
          cases hx with | @ptr _ _ l hl =>
          obtain ⟨l', hl', lm, hb0, hlm, hit⟩ := hH.obj id _ hid rfl
          rw [hl] at hl'; cases hl'
          obtain ⟨lm', hlm', ces, hces, hal⟩ := hH.obj mid _ hmid rfl
          rw [hlm] at hlm'; cases hlm'
          have hold : ∀ x ∈ ces.toList, x.born < since := fun x hx => by
            obtain ⟨e, he, hbe, _⟩ := hal.mem hx
            have := List.all_eq_true.1 hcnd.1 e he
            rw [hbe]; simpa using this
          have hcand : AlE w E (nextCands es seen) (leftOf ces seen.toArray).toList := by
            have := hal.filter (p := fun b => !seen.contains b)
            unfold leftOf nextCands
            rw [Array.toList_filter]
            simpa using this
          have hadd : l.base + 0 = 0 := by omega
          rw [hadd] at hexec
          rcases run_next_at (P := P) w o.type l.b lm.b since stepped seen.toArray ces clock hit hces hold hcnd.2 with ⟨hz, hrun⟩ | ⟨e, he, w1, hw1, hrun⟩
          · have hc0 : nextCands es seen = [] := by
              have h9 : (nextCands es seen).length = (leftOf ces seen.toArray).toList.length := hcand.length
              rw [show (leftOf ces seen.toArray).toList.length = (leftOf ces seen.toArray).size from Array.length_toList, hz] at h9
              exact List.eq_nil_of_length_eq_zero h9
            exact ⟨_, H, E, w, _, h0 hc0, hH, Grow.refl _ _ _, .tup (vs := #[.bool false]) rfl (fun i hi => by
              have hi0 : i = 0 := by simp at hi; omega
              subst hi0; exact .c rfl), .inl (by rw [hexec]; simp only [Sem.run_bind, hrun, Result.andThen_ok, Sem.run_pure])⟩
          · obtain ⟨e', he', hbe, hke, hve⟩ := hcand.mem he
            have hR1 : RelH G w1 E H ∧ Mono w E w1 E ∧ Grow H E w H E w1 := by
              rcases hw1 with rfl | rfl
              · exact ⟨hH, Mono.refl _ _, Grow.refl _ _ _⟩
              · have := rel_same hH (w' := w.drew) rfl
                exact ⟨this.1, this.2, ⟨this.2, Nat.le_refl _, fun _ _ _ => rfl, fun _ h => .inl h, fun _ h => .inl h, rfl, rfl, rfl⟩⟩
            obtain ⟨hH1, hm1, hg1⟩ := hR1
            have hit1 : w1.heap[l.b]? = some (.mapIter (some lm.b) since seen.toArray stepped) := by rcases hw1 with rfl | rfl <;> exact hit
            have hsb : ChangeMaps.setBlock w1 l.b (.mapIter (some lm.b) since (seen.toArray.push e.born) clock) = { w1 with heap := w1.heap.setIfInBounds l.b (.mapIter (some lm.b) since (seen.toArray.push e.born) clock) } := rfl
            have hw := rel_write hH1 (w' := ChangeMaps.setBlock w1 l.b (.mapIter (some lm.b) since (seen.toArray.push e.born) clock)) hid rfl hl
              (.mit mid since (seen ++ [e'.1]) clock) (by rw [hsb]; simp) (fun c hcne => by rw [hsb]; exact Array.getElem?_setIfInBounds_ne (fun e => hcne e.symm)) (fun q hq => by simp [rowSize, hit1] at hq) (by rw [hsb]) (by rw [hsb]) (by rw [hsb])
              (fun hmn => ⟨lm, hb0, hlm, by rw [hsb]; simp [heap_lt hit1, hbe]⟩)
            exact ⟨_, _, E, _, _, h1 e' he', hw.1, hg1.trans hw.2, .tup (vs := #[.bool true, e.key, e.val]) rfl (fun i hi => by
              rcases i with _ | _ | _ | i
              · exact .c rfl
              · exact (hke.mono hm1).mono hw.2.mono
              · exact (hve.mono hm1).mono hw.2.mono
              · exact absurd hi (by simp)), .inl (by rw [hexec]; simp only [Sem.run_bind, hrun, Result.andThen_ok, Sem.run_pure])⟩
        · cases h
      · cases h
    · cases h
  · cases h

theorem opv_typeAssert {x : Operand} {xt t : TypeId} {cm : Bool} (ho : o.op = .typeAssert x xt t cm) (h : aTA P (ev ts x) t cm = some v) : OpV P G n o ts H v H :=
  OpV.pure fun E w tmps hH hT hok D => by
    have hx := rep_ev hT (opd1 (by rw [ho]; rfl) hok) D
    have hpair : ∀ {a : AV} {ra : Value} {b : Bool}, RepV w E a ra → RepV w E (.tup [a, .c (.bool b)]) (.tuple #[ra, .bool b]) := fun {a ra b} hr => by
      refine .tup (by simp) (fun i hi => ?_)
      match i with
      | 0 => exact hr
      | 1 => exact .c rfl
      | i + 2 => simp at hi; omega
    have hz : ∀ {v : AV}, (zeroEl P t).map (fun z => AV.tup [z, .c (.bool false)]) = some v → ∃ zv, (zeroValue t).run P w = .ok zv w ∧ RepV w E v (.tuple #[zv, .bool false]) := fun {v} hv => by
      cases hz : zeroEl P t with
      | none => rw [hz] at hv; cases hv
      | some z =>
        rw [hz] at hv; cases hv
        obtain ⟨zv, h1, ⟨h2, h3⟩, rfl, _⟩ := zeroEl_inv hz
        exact ⟨zv, zeroValue_run h1 w, hpair (rep_const h2 w E)⟩
    unfold aTA at h
    split at h
    · cases h
    · cases h
    · rename_i d hne hu
      have hI : ∀ (t' : TypeId) (q : Value), (Instr.typeAssert (.iface t' q) xt t cm).run P w = (if t' = t then (pure (if cm then .tuple #[q, .bool true] else q)) else if cm then (do pure (.tuple #[← zeroValue t, .bool false])) else runtimePanic (.typeAssertion (some xt) (some t') t "") : Sem Value).run P w := fun t' q => by
        unfold Instr.typeAssert
        simp only [Sem.run_bind, run_underlying hu, Result.andThen_ok]
      have hN : (Instr.typeAssert .nilIface xt t cm).run P w = (if cm then (do pure (.tuple #[← zeroValue t, .bool false])) else runtimePanic (.typeAssertion (some xt) none t "") : Sem Value).run P w := by
        unfold Instr.typeAssert
        simp only [Sem.run_bind, run_underlying hu, Result.andThen_ok]
      have hex : ∀ r, (Instr.typeAssert (Act.eval ⟨tmps, D⟩ x) xt t cm).run P w = .ok r w → (execOp (Act.eval ⟨tmps, D⟩) o).run P w = .ok (.value r) w := fun r hr => by
        simp [execOp, ho, Sem.run_bind, hr, Result.andThen]
      generalize ev ts x = a at h hx
      generalize hq : Act.eval ⟨tmps, D⟩ x = q0 at hx hex
      have hfail : ∀ {q0 : Value}, cm = true → (zeroEl P t).map (fun z => AV.tup [z, .c (.bool false)]) = some v → (Instr.typeAssert q0 xt t cm).run P w = (do pure (.tuple #[← zeroValue t, .bool false]) : Sem Value).run P w →
          ∃ r, RepV w E v r ∧ (Instr.typeAssert q0 xt t cm).run P w = .ok r w := fun {q0} _ hv he => by
        obtain ⟨zv, h1, h2⟩ := hz hv
        exact ⟨_, h2, by rw [he]; simp [Sem.run_bind, h1, Result.andThen]⟩
      split at h
      · rename_i t' u
        cases hx
        rename_i q hq2
        split at h
        · rename_i hb
          have e := Nat.eq_of_beq_eq_true hb
          subst e
          cases h
          refine ⟨if cm = true then .tuple #[q, .bool true] else q, ?_, hex _ (by rw [hI, if_pos rfl]; rfl)⟩
          cases cm with
          | true => exact hpair hq2
          | false => exact hq2
        · rename_i hb
          have hne2 : ¬ t' = t := fun e => by subst e; rw [Nat.beq_refl] at hb; cases hb
          split at h
          · rename_i hcm
            obtain ⟨r, h1, h2⟩ := hfail hcm h (q0 := .iface t' q) (by rw [hI, if_neg hne2, if_pos hcm])
            exact ⟨r, h1, hex _ h2⟩
          · simp at h
      · cases hx
        split at h
        · rename_i hcm
          obtain ⟨r, h1, h2⟩ := hfail hcm h (q0 := .nilIface) (by rw [hN, if_pos hcm])
          exact ⟨r, h1, hex _ h2⟩
        · simp at h
      · simp at h
end
end Go.Ab
