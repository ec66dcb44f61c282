/-
  A region that draws its order, in which variables are made aside: they may come into being at any time ahead of the operations that look at them.
-/
import Derived.Test.YtchodnhlkdlgmaaGreatDoorEvR4
set_option linter.unusedVariables false
set_option linter.unusedSimpArgs false
namespace Go.Ab
section
variable {P : Program} {G : Gl} {ops : Array Oper}

def headOps (ops : Array Oper) (p : Nat) : Array Oper := (ops.toList.take p).toArray
theorem headOps_get {p i : Nat} (h : i < p) : (headOps ops p)[i]? = ops[i]? := by
  unfold headOps
  simp [List.getElem?_take, h]
theorem headOps_none {p i : Nat} (h : p ≤ i) : (headOps ops p)[i]? = none := by
  unfold headOps
  simp [List.getElem?_take, Nat.not_lt.2 h]

def guardLt (p : Nat) (o : Oper) : Bool := match o.guard with
  | some (j, _) => decide (j < p)
  | none => true
theorem wantedA_head {p : Nat} {o : Oper} (hg : guardLt p o = true) (ts : Nat → AV) : wantedA (headOps ops p) ts o = wantedA ops ts o := by
  unfold wantedA guardLt at *
  cases h : o.guard with
  | none => rfl
  | some g =>
    obtain ⟨j, w⟩ := g
    rw [h] at hg
    have : gval (headOps ops p) ts j = gval ops ts j := by
      unfold gval
      rw [headOps_get (by simpa using hg)]
    simp only [this]

theorem stepR_head {imp : Nat → Bool} {p i : Nat} {ts : Nat → AV} {H : List AO} {K : (Nat → AV) → List AO → Prop} (hi : i < p) (hg : ∀ o, ops[i]? = some o → guardLt p o = true)
    (h : stepR P G (headOps ops p) imp i ts H K) : stepR P G ops imp i ts H K := by
  unfold stepR at *
  rw [headOps_get hi] at h
  split at h
  · exact h
  · rename_i o ho
    rw [wantedA_head (hg o ho)] at h
    exact h

/-- A step of a region, told by its operation. -/
theorem stepR_op {imp : Nat → Bool} {i : Nat} {ts : Nat → AV} {H : List AO} {K : (Nat → AV) → List AO → Prop} (h : stepR P G ops imp i ts H K) : ∃ o, ops[i]? = some o ∧
    ((wantedA ops ts o = true ∧ isDefer o.op = false ∧ ∀ n, OpS P G n o ts H (fun v H' => K (put ts o.dst v) H')) ∨ (wantedA ops ts o = false ∧ K (put ts o.dst .un) H)) := by
  unfold stepR at h
  split at h
  · exact h.elim
  · rename_i o ho
    refine ⟨o, ho, ?_⟩
    split at h
    · rename_i hw
      split at h
      · rename_i f args tys hop
        refine .inl ⟨hw, by rw [hop]; rfl, fun n => OpS.call hop ?_⟩
        split at h
        · exact h
        · obtain ⟨v, h1, h2⟩ := h; exact h1 _ _ h2
      · obtain ⟨r, h1, h2, h3⟩ := h
        exact .inl ⟨hw, aop_defer h1, fun n => (aop_sound h1 h2).toS h3⟩
    · rename_i hw
      exact .inr ⟨by simpa using hw, h⟩

theorem anyR_more {imp : Nat → Bool} {K : (Nat → AV) → List AO → Prop} : ∀ (f : Nat) {listed : Array Bool} {ts : Nat → AV} {H : List AO}, anyR P G ops imp K f listed ts H → anyR P G ops imp K (f + 1) listed ts H
  | 0, listed, ts, H, h => ⟨fun _ => h.2, fun i hi => by rw [h.1] at hi; cases hi⟩
  | f + 1, listed, ts, H, h => ⟨h.1, fun i hi => stepR_mono (h.2 i hi) fun ts' H' h => anyR_more f h⟩
theorem anyR_add {imp : Nat → Bool} {K : (Nat → AV) → List AO → Prop} (f : Nat) {listed : Array Bool} {ts : Nat → AV} {H : List AO} (h : anyR P G ops imp K f listed ts H) : ∀ m, anyR P G ops imp K (m + f) listed ts H
  | 0 => by rw [Nat.zero_add]; exact h
  | m + 1 => by rw [show m + 1 + f = (m + f) + 1 by omega]; exact anyR_more _ (anyR_add f h m)

/-! ### Variables made aside -/

def alOf (ops : Array Oper) (a : Nat) : Option (Nat × TypeId) := match ops[a]? with
  | some o => match o.op, o.dst, o.guard with
    | .alloc t, some d, none => if o.after.all (fun e => !(Region.binds .any e)) = true then some (d, t) else none
    | _, _, _ => none
  | none => none
theorem alOf_inv {a d : Nat} {t : TypeId} (h : alOf ops a = some (d, t)) : ∃ o, ops[a]? = some o ∧ o.op = .alloc t ∧ o.dst = some d ∧ o.guard = none ∧ ∀ e ∈ o.after, Region.binds .any e = false := by
  unfold alOf at h
  split at h
  · rename_i o ho
    split at h
    · rename_i h1 h2 h3
      split at h
      · rename_i h4
        cases h
        exact ⟨o, ho, h1, h2, h3, fun e he => by
          have := (Array.all_eq_true'.1 h4) e he
          simpa using this⟩
      · cases h
    · cases h
  · cases h

def ZOk (cs : List AV) (z : Array Value) : Prop := z.size = cs.length ∧ ∀ (w : World) (E : En) (i : Nat), i < cs.length → (cs.getD i .un).isCell = true ∧ RepV w E (cs.getD i .un) (z.getD i undef)

theorem alloc_run {o : Oper} {t : TypeId} (ho : o.op = .alloc t) {cs : List AV} (h : zeroCells P t = some cs) :
    ∃ z, ZOk cs z ∧ ∀ (ρ : Operand → Value) (w : World), (execOp ρ o).run P w = .ok (.value (.pointer (some ⟨w.heap.size, 0, none⟩))) (w.alloc (.cells z t)) := by
  unfold zeroCells at h
  cases hi : P.info? t with
  | none => rw [hi] at h; cases h
  | some i =>
    cases hz : i.zero with
    | none => rw [hi] at h; simp [hz] at h
    | some z =>
      rw [hi] at h
      simp only [Option.bind_some, hz] at h
      split at h
      · rename_i hc
        cases h
        refine ⟨z.cells, ⟨(zero_rep hc default ⟨fun _ => none, fun _ => False⟩).1, fun w E => (zero_rep hc w E).2⟩, fun ρ w => ?_⟩
        have g1' : (newRow t z.cells).run P w = .ok ⟨w.heap.size, 0, none⟩ (w.alloc (.cells z.cells t)) := rfl
        simp only [execOp, ho, Instr.alloc, zeroValue, typeInfo, program, Sem.run_bind, newVar, Sem.run, Result.andThen_ok, hi, hz, Sem.run_pure, g1']
      · cases h

/-- A block that nobody told of becomes an object. -/
theorem rel_track {w : World} {E : En} {H : List AO} (h : RelH G w E H) (ao : AO) (l : Loc) (hr : ∀ E', Mono w E w E' → E'.loc H.length = some l → RelO w E' ao l)
    (hnl : ¬ Live H E l.b) (hnf : ¬ E.fro l.b) :
    RelH G w (E.put H.length l) (H ++ [ao]) ∧ Mono w E w (E.put H.length l) ∧ (∀ b, Live (H ++ [ao]) (E.put H.length l) b → Live H E b ∨ b = l.b) ∧ (E.put H.length l).loc H.length = some l := by
  have hm : Mono w E w (E.put H.length l) := mono_put h l
  have hnew : (E.put H.length l).loc H.length = some l := by simp [En.put]
  have hloc : ∀ id, id < H.length → (E.put H.length l).loc id = E.loc id := fun id hid => by
    show (if id = H.length then some l else E.loc id) = E.loc id
    rw [if_neg (by omega)]
  have hget : ∀ id o', (H ++ [ao])[id]? = some o' → (id < H.length ∧ H[id]? = some o') ∨ (id = H.length ∧ o' = ao) := by
    intro id o' hH
    rcases Nat.lt_trichotomy id H.length with h1 | h1 | h1
    · rw [List.getElem?_append_left h1] at hH; exact .inl ⟨h1, hH⟩
    · subst h1; simp at hH; exact .inr ⟨rfl, hH.symm⟩
    · rw [List.getElem?_append_right (by omega)] at hH
      simp [List.getElem?_eq_none (show ([ao] : List AO).length ≤ id - H.length by simp; omega)] at hH
  have hlive : ∀ b, Live (H ++ [ao]) (E.put H.length l) b → Live H E b ∨ b = l.b := by
    rintro b ⟨id, o', l', hH, ho, hl', rfl⟩
    rcases hget id o' hH with ⟨h1, h2⟩ | ⟨h1, h2⟩
    · rw [hloc id h1] at hl'
      exact .inl ⟨id, o', l', h2, ho, hl', rfl⟩
    · subst h1
      rw [hnew] at hl'; cases hl'
      exact .inr rfl
  refine ⟨⟨fun id o' hH ho => ?_, ?_, h.frob, fun b hb hlv => ?_, fun id l' hl' => ?_, fun g cs hg => (h.gl g cs hg).mono hm⟩, hm, hlive, hnew⟩
  · rcases hget id o' hH with ⟨h1, h2⟩ | ⟨h1, h2⟩
    · obtain ⟨l', hl', hr'⟩ := h.obj id o' h2 ho
      exact ⟨l', by rw [hloc id h1]; exact hl', hr'.mono hm rfl⟩
    · subst h1; subst h2
      exact ⟨l, hnew, hr _ hm hnew⟩
  · intro id id' o1 o2 l1 l2 hH1 ho1 hH2 ho2 hl1 hl2 hb
    rcases hget id o1 hH1 with ⟨h1, h1'⟩ | ⟨h1, h1'⟩ <;> rcases hget id' o2 hH2 with ⟨h2, h2'⟩ | ⟨h2, h2'⟩
    · rw [hloc id h1] at hl1; rw [hloc id' h2] at hl2
      exact h.inj id id' o1 o2 l1 l2 h1' ho1 h2' ho2 hl1 hl2 hb
    · rw [hloc id h1] at hl1; subst h2; rw [hnew] at hl2; cases hl2
      exact absurd ⟨id, o1, l1, h1', ho1, hl1, hb⟩ hnl
    · rw [hloc id' h2] at hl2; subst h1; rw [hnew] at hl1; cases hl1
      exact absurd ⟨id', o2, l2, h2', ho2, hl2, hb.symm⟩ hnl
    · omega
  · rcases hlive b hlv with h1 | h1
    · exact h.sep b hb h1
    · subst h1; exact hnf hb
  · rw [List.length_append]
    by_cases h1 : id = H.length
    · simp [h1]
    · have : E.loc id = some l' := by
        have h2 : (if id = H.length then some l else E.loc id) = some l' := hl'
        rwa [if_neg h1] at h2
      have := h.dom id l' this
      simp; omega

/-- Blocks made ahead of their time: B tells which. -/
structure Pend (P : Program) (ops : Array Oper) (lo : Nat) (B : Nat → Option Nat) (H : List AO) (E : En) (w : World) (tmps told : Array Value) : Prop where
  blk : ∀ a b, B a = some b → ∃ d t cs z, alOf ops a = some (d, t) ∧ zeroCells P t = some cs ∧ ZOk cs z ∧ w.heap[b]? = some (.cells z t (0, 0)) ∧ lo ≤ b ∧ ¬ Live H E b ∧ ¬ E.fro b ∧
    tmps.getD d undef = .pointer (some ⟨b, 0, none⟩) ∧ d < tmps.size
  inj : ∀ a a' b, B a = some b → B a' = some b → a = a'
  dis : ∀ a a' b b' d t t', B a = some b → B a' = some b' → alOf ops a = some (d, t) → alOf ops a' = some (d, t') → a = a'
  size : told.size = tmps.size
  same : ∀ i, (∀ a b d t, B a = some b → alOf ops a = some (d, t) → i ≠ d) → tmps.getD i undef = told.getD i undef

theorem Pend.grow {lo : Nat} {B : Nat → Option Nat} {H H' : List AO} {E E' : En} {w w' : World} {tmps told : Array Value} (h : Pend P ops lo B H E w tmps told) (g : Grow H E w H' E' w') : Pend P ops lo B H' E' w' tmps told :=
  ⟨fun a b hb => by
    obtain ⟨d, t, cs, z, h1, h2, h3, h4, h5, h6, h7, h8, h9⟩ := h.blk a b hb
    have hlt := heap_lt h4
    refine ⟨d, t, cs, z, h1, h2, h3, by rw [g.same b hlt h6]; exact h4, h5, fun hl => ?_, fun hf => ?_, h8, h9⟩
    · rcases g.newlive b hl with h | h
      · exact h6 h
      · omega
    · rcases g.newfro b hf with h | h | h
      · exact h7 h
      · omega
      · exact h6 h, h.inj, h.dis, h.size, h.same⟩

theorem getD_cput {tmps : Array Value} {dst : Option Nat} {r : Value} {i : Nat} (h : dst ≠ some i) : (cput tmps dst r).getD i undef = tmps.getD i undef := by
  cases dst with
  | none => rfl
  | some d =>
    show (tmps.setIfInBounds d r).getD i undef = _
    rw [Array.getD_eq_getD_getElem?, Array.getD_eq_getD_getElem?, Array.getElem?_setIfInBounds_ne (fun e => h (by rw [e]))]
theorem size_cput {tmps : Array Value} {dst : Option Nat} {r : Value} : (cput tmps dst r).size = tmps.size := by cases dst <;> simp [cput]
theorem getD_cput_same {tmps : Array Value} {d : Nat} {r : Value} (h : d < tmps.size) : (cput tmps (some d) r).getD d undef = r := by
  show (tmps.setIfInBounds d r).getD d undef = _
  simp [Array.getD, h]

theorem Pend.put {lo : Nat} {B : Nat → Option Nat} {H : List AO} {E : En} {w : World} {tmps told : Array Value} (h : Pend P ops lo B H E w tmps told) {dst : Option Nat} (hd : ∀ a b d t, B a = some b → alOf ops a = some (d, t) → dst ≠ some d)
    (r : Value) : Pend P ops lo B H E w (cput tmps dst r) (cput told dst r) :=
  ⟨fun a b hb => by
    obtain ⟨d, t, cs, z, h1, h2, h3, h4, h5, h6, h7, h8, h9⟩ := h.blk a b hb
    exact ⟨d, t, cs, z, h1, h2, h3, h4, h5, h6, h7, by rw [getD_cput (hd a b d t hb h1)]; exact h8, by rw [size_cput]; exact h9⟩, h.inj, h.dis, by rw [size_cput, size_cput]; exact h.size, fun i hi => by
    by_cases e : dst = some i
    · subst e
      by_cases hl : i < tmps.size
      · rw [getD_cput_same hl, getD_cput_same (by rw [h.size]; exact hl)]
      · show (tmps.setIfInBounds i r).getD i undef = (told.setIfInBounds i r).getD i undef
        have hl2 : ¬ i < told.size := by rw [h.size]; exact hl
        simp [Array.getD, hl, hl2]
    · rw [getD_cput e, getD_cput e]; exact h.same i hi⟩

/-- One more block made ahead of its time. -/
theorem Pend.more {lo : Nat} {B : Nat → Option Nat} {H : List AO} {E : En} {w : World} {tmps told : Array Value} (hR : RelH G w E H) (h : Pend P ops lo B H E w tmps told) (hlo : lo ≤ w.heap.size) {a d : Nat} {t : TypeId} {cs : List AV} {z : Array Value}
    (ha : alOf ops a = some (d, t)) (hBa : B a = none) (hz : zeroCells P t = some cs) (hzo : ZOk cs z) (hd : d < tmps.size) (hdis : ∀ a' b' t', B a' = some b' → alOf ops a' = some (d, t') → False) :
    Pend P ops lo (fun j => if j = a then some w.heap.size else B j) H E (w.alloc (.cells z t)) (cput tmps (some d) (.pointer (some ⟨w.heap.size, 0, none⟩))) told := by
  have hg := (rel_alloc_plain hR (Obj.cells z t (0, 0))).2
  have hg' := h.grow hg
  have hnl : ¬ Live H E w.heap.size := fun hl => by have := Live.lt hR hl; omega
  have hnf : ¬ E.fro w.heap.size := fun hf => by
    obtain ⟨c, t, f, hc⟩ := hR.frob _ hf
    have := heap_lt hc
    omega
  refine ⟨fun j b hb => ?_, fun j j' b hb hb' => ?_, fun j j' b b' d' t1 t2 hb hb' h1 h2 => ?_, by rw [size_cput]; exact h.size, fun i hi => ?_⟩
  · by_cases e : j = a
    · subst e
      simp only [if_true] at hb
      cases hb
      exact ⟨d, t, cs, z, ha, hz, hzo, getElem?_alloc_new w _, hlo, hnl, hnf, getD_cput_same hd, by rw [size_cput]; exact hd⟩
    · simp only [if_neg e] at hb
      obtain ⟨d', t', cs', z', h1, h2, h3, h4, h5, h6, h7, h8, h9⟩ := hg'.blk j b hb
      refine ⟨d', t', cs', z', h1, h2, h3, h4, h5, h6, h7, ?_, by rw [size_cput]; exact h9⟩
      rw [getD_cput (fun e2 => ?_)]; exact h8
      cases e2
      exact hdis j b t' hb h1
  · by_cases e : j = a <;> by_cases e' : j' = a
    · rw [e, e']
    · simp only [if_pos e, if_neg e'] at hb hb'
      cases hb
      obtain ⟨_, _, _, _, _, _, _, h4, _⟩ := h.blk j' _ hb'
      have := heap_lt h4
      omega
    · simp only [if_neg e, if_pos e'] at hb hb'
      cases hb'
      obtain ⟨_, _, _, _, _, _, _, h4, _⟩ := h.blk j _ hb
      have := heap_lt h4
      omega
    · simp only [if_neg e, if_neg e'] at hb hb'
      exact h.inj j j' b hb hb'
  · by_cases e : j = a <;> by_cases e' : j' = a
    · rw [e, e']
    · simp only [if_neg e'] at hb'
      subst e
      rw [ha] at h1; cases h1
      exact (hdis j' b' t2 hb' h2).elim
    · simp only [if_neg e] at hb
      subst e'
      rw [ha] at h2; cases h2
      exact (hdis j b t1 hb h1).elim
    · simp only [if_neg e, if_neg e'] at hb hb'
      exact h.dis j j' b b' d' t1 t2 hb hb' h1 h2
  · have hid : i ≠ d := hi a w.heap.size d t (by simp) ha
    rw [getD_cput (fun e => hid (by cases e; rfl))]
    refine h.same i fun a' b' d' t' hb' h1 => ?_
    by_cases e : a' = a
    · subst e; rw [hBa] at hb'; cases hb'
    · exact hi a' b' d' t' (by simp [e, hb']) h1

/-- Its time has come. -/
theorem Pend.flush {lo : Nat} {B : Nat → Option Nat} {H : List AO} {E : En} {w : World} {tmps told : Array Value} {n : Nat} {ts : Nat → AV} (hR : RelH G w E H) (hT : RepT w E n ts told) (h : Pend P ops lo B H E w tmps told) {a b d : Nat} {t : TypeId} {cs : List AV}
    (hB : B a = some b) (ha : alOf ops a = some (d, t)) (hz : zeroCells P t = some cs) {H0 : List AO} {E0 : En} {w0 : World} (hG : Grow H0 E0 w0 H E w) (hlo : w0.heap.size ≤ lo) :
    ∃ E' told', RelH G w E' (H ++ [.cells cs]) ∧ RepT w E' n (upd ts d (.ptr H.length 0)) told' ∧ Pend P ops lo (fun j => if j = a then none else B j) (H ++ [.cells cs]) E' w tmps told' ∧ Grow H0 E0 w0 (H ++ [.cells cs]) E' w ∧ Mono w E w E' := by
  obtain ⟨d', t', cs', z, h1, h2, h3, h4, h5, h6, h7, h8, h9⟩ := h.blk a b hB
  rw [ha] at h1; cases h1
  rw [hz] at h2; cases h2
  obtain ⟨g1, g2, g3, g4⟩ := rel_track hR (.cells cs) ⟨b, 0, 1⟩ (fun E' hm hl => ⟨z, t, h4, by simp [h3.1], fun i hi => by
    have := h3.2 w E' i hi
    rw [Nat.zero_add]; exact this⟩) h6 h7
  refine ⟨_, cput told (some d) (.pointer (some ⟨b, 0, none⟩)), g1, ?_, ⟨fun j b' hb' => ?_, fun j j' b' hb hb' => ?_, fun j j' b1 b2 d' t1 t2 hb hb' q1 q2 => ?_, by rw [size_cput]; exact h.size, fun i hi => ?_⟩, ?_, g2⟩
  · exact (hT.mono g2).put (.ptr g4) (some d)
  · by_cases e : j = a
    · subst e; simp at hb'
    · simp only [if_neg e] at hb'
      obtain ⟨d', t', cs', z', q1, q2, q3, q4, q5, q6, q7, q8, q9⟩ := h.blk j b' hb'
      refine ⟨d', t', cs', z', q1, q2, q3, q4, q5, fun hl => ?_, q7, q8, q9⟩
      rcases g3 b' hl with hl | hl
      · exact q6 hl
      · subst hl; exact e (h.inj j a _ hb' hB)
  · by_cases e : j = a
    · subst e; simp at hb
    · by_cases e' : j' = a
      · subst e'; simp at hb'
      · simp only [if_neg e, if_neg e'] at hb hb'
        exact h.inj j j' b' hb hb'
  · by_cases e : j = a
    · subst e; simp at hb
    · by_cases e' : j' = a
      · subst e'; simp at hb'
      · simp only [if_neg e, if_neg e'] at hb hb'
        exact h.dis j j' b1 b2 d' t1 t2 hb hb' q1 q2
  · by_cases e : i = d
    · subst e
      rw [getD_cput_same (by rw [h.size]; exact h9)]; exact h8
    · rw [getD_cput (fun e2 => e (by cases e2; rfl))]
      refine h.same i fun a' b' d' t' hb' q1 => ?_
      by_cases e' : a' = a
      · subst e'; rw [ha] at q1; cases q1; exact e
      · exact hi a' b' d' t' (by simp [e', hb']) q1
  · refine ⟨hG.mono.trans g2, hG.size, hG.same, fun b' hf => hG.newfro b' hf, fun b' hl => ?_, hG.os, hG.tape, hG.output⟩
    rcases g3 b' hl with hl | hl
    · exact hG.newlive b' hl
    · exact .inr (by rw [hl]; show w0.heap.size ≤ b; omega)

theorem runG_monoK {ops : Array Oper} {M : Nat → Nat → Bool} {imp : Nat → Bool} {K K' : (Nat → List AO → Prop) → (Nat → AV) → List AO → Prop} (hK : ∀ W ts H, K W ts H → K' W ts H) : ∀ {l : List (Nat × Bool)} {W : Nat → List AO → Prop} {ts : Nat → AV} {H : List AO}, runG P G ops M imp K l W ts H → runG P G ops M imp K' l W ts H
  | [], W, ts, H, h => hK _ _ _ h
  | (i, true) :: l, W, ts, H, h => by
    obtain ⟨o, ho, h⟩ := h
    refine ⟨o, ho, ?_⟩
    rcases h with ⟨hw, v, h1, h2⟩ | ⟨hw, h2⟩
    · exact .inl ⟨hw, v, h1, runG_monoK hK h2⟩
    · exact .inr ⟨hw, runG_monoK hK h2⟩
  | (i, false) :: l, W, ts, H, h => by
    have h : stepR P G ops imp i ts H fun ts' H' => (imp i = true → W i H') ∧ runG P G ops M imp K l W ts' H' := h
    exact stepR_mono h fun ts' H' h => ⟨h.1, runG_monoK hK h.2⟩

/-! ### The whole region -/

def isSelect : Op → Bool
  | .select _ _ => true
  | _ => false
def noD (ops : Array Oper) (o : Oper) (d : Nat) : Bool := (o.looksAt ops).all (fun e => !(Nat.beq e d)) && (match o.dst with | some e => !(Nat.beq e d) | none => true)
def listQ (ops : Array Oper) (q : Nat) : Array Bool := ((List.range ops.size).map fun i => decide (i < q)).toArray
theorem listQ_get {q i : Nat} (d : Bool) (h : i < ops.size) : (listQ ops q).getD i d = decide (i < q) := by
  unfold listQ
  rw [Array.getD_eq_getD_getElem?]
  simp [h]

def FWc (P : Program) (G : Gl) (rd : Option Nat) (n : Nat) (Q : Lv → (Nat → AV) → List AO → Prop) (b : Frame) (D : List Deferred) (cs : List Frame) (H0 : List AO) (E0 : En) (w0 : World) (st : Machine) : Prop :=
  ∃ (L : Lv) (ts' : Nat → AV) (H' : List AO) (E' : En) (w' : World) (tmps' : Array Value) (D' : List Deferred) (todo' : List Item),
    Q L ts' H' ∧ RelH G w' E' H' ∧ Grow H0 E0 w0 H' E' w' ∧ RepT w' E' n ts' tmps' ∧ AtLeave todo' L ∧ ((rd ≠ none → D' = D) ∧ MarksOn w0 w' D D') ∧
    Lands P b cs E' w' tmps' D' todo' st L

theorem FWc.head {rd : Option Nat} {n : Nat} {Q : Lv → (Nat → AV) → List AO → Prop} {b : Frame} {D : List Deferred} {cs : List Frame} {H0 : List AO} {E0 : En} {w0 : World} {s s' : Machine} (h : Steps P s s') (k : FWc P G rd n Q b D cs H0 E0 w0 s') : FWc P G rd n Q b D cs H0 E0 w0 s := by
  obtain ⟨L, ts', H', E', w', tmps', D', todo', h1, h2, h3, h4, h6, h7, h8⟩ := k
  exact ⟨L, ts', H', E', w', tmps', D', todo', h1, h2, h3, h4, h6, h7, h8.pre P h⟩

theorem FW.toc {rd : Option Nat} {n : Nat} {todo : List Item} {ts : Nat → AV} {H : List AO} {Q : Lv → (Nat → AV) → List AO → Prop} (h : FW P G rd n todo ts H Q) (hk : todoOk n todo = true) {E : En} {w : World} {tmps : Array Value} (hH : RelH G w E H) (hT : RepT w E n ts tmps)
    {b : Frame} {D : List Deferred} {cs : List Frame} (hrd : RoundRel E b rd) (hD : MarksOk w D) {H0 : List AO} {E0 : En} {w0 : World} (hG : Grow H0 E0 w0 H E w) : FWc P G rd n Q b D cs H0 E0 w0 (lone (frm b tmps todo D) cs w) := by
  obtain ⟨L, ts', H', E', w', tmps', D', todo', h1, h2, h3, h4, h6, h7, h8⟩ := h hk E w tmps hH hT b D cs hrd
  exact ⟨L, ts', H', E', w', tmps', D', todo', h1, h2, hG.trans h3, h4, h6, ⟨h7.1, h7.2.le hG.size⟩, h8⟩

theorem array_ext_getD {a b : Array Value} (hs : a.size = b.size) (h : ∀ i, a.getD i undef = b.getD i undef) : a = b := by
  apply Array.ext hs
  intro i h1 h2
  have := h i
  simpa [Array.getD, h1, h2] using this

section
variable {rd : Option Nat} {n : Nat} {k : List Item} {Q : Lv → (Nat → AV) → List AO → Prop} {imp : Nat → Bool} {p q : Nat}

/-- All that was made ahead of its time is told. -/
theorem flush_all {fuel t : Nat} {listed : Array Bool} {K : (Nat → AV) → List AO → Prop} (hK : ∀ ts H, K ts H → FW P G rd n (.inRegion ops (Region.linearise.go .any ops fuel t listed []) :: k) ts H Q) (hk : todoOk n (.inRegion ops (Region.linearise.go .any ops fuel t listed []) :: k) = true)
    {b : Frame} {D : List Deferred} {cs : List Frame} {H0 : List AO} {E0 : En} {w0 w : World} {tmps : Array Value} (hD : MarksOk w D) :
    ∀ (l : Nat) (m : Nat) (B : Nat → Option Nat) (ts : Nat → AV) (H : List AO) (E : En) (told : Array Value), m + l = q → (∀ a, (B a).isSome = true ↔ (m ≤ a ∧ a < q)) → (∀ a, m ≤ a → a < q → (alOf ops a).isSome = true) →
      RelH G w E H → RepT w E n ts told → Pend P ops w0.heap.size B H E w tmps told → Grow H0 E0 w0 H E w → RoundRel E b rd → runR P G ops imp K (List.range' m l) ts H →
      FWc P G rd n Q b D cs H0 E0 w0 (lone (frm b tmps (.inRegion ops (Region.linearise.go .any ops fuel t listed []) :: k) D) cs w)
  | 0, m, B, ts, H, E, told, hm, hB, hal, hR, hT, hp, hG, hrd, h => by
    have hn : ∀ a, B a = none := fun a => by
      cases e : B a with
      | none => rfl
      | some b => have := (hB a).1 (by rw [e]; rfl); omega
    have e : tmps = told := array_ext_getD hp.size.symm fun i => hp.same i fun a b d t hb _ => by rw [hn a] at hb; cases hb
    subst e
    exact FW.toc (hK ts H h) hk hR hT hrd hD hG
  | l + 1, m, B, ts, H, E, told, hm, hB, hal, hR, hT, hp, hG, hrd, h => by
    obtain ⟨⟨d, t⟩, ha⟩ := Option.isSome_iff_exists.1 (hal m (Nat.le_refl _) (by omega))
    obtain ⟨o, ho, hop, hdst, hgd, haf⟩ := alOf_inv ha
    have h : stepR P G ops imp m ts H (runR P G ops imp K (List.range' (m + 1) l)) := h
    unfold stepR at h
    rw [ho] at h
    have hw : wantedA ops ts o = true := by simp [wantedA, hgd]
    simp only [hw, if_true, hop, hdst] at h
    obtain ⟨r, h1, h2, h3⟩ := h
    simp only [aop] at h1
    split at h1
    · rename_i csz hz
      cases h1
      obtain ⟨bk, hbk⟩ := Option.isSome_iff_exists.1 ((hB m).2 ⟨Nat.le_refl _, by omega⟩)
      obtain ⟨E', told', g1, g2, g3, g4, g5⟩ := hp.flush hR hT hbk ha hz hG (Nat.le_refl _)
      refine flush_all hK hk hD l (m + 1) _ _ _ E' told' (by omega) (fun a => ?_) (fun a h1 h2 => hal a (by omega) h2) g1 g2 g3 g4 (hrd.mono g5) h3
      by_cases e : a = m
      · subst e; simp; omega
      · simp only [if_neg e]
        rw [hB a]
        constructor <;> intro h <;> omega
    · cases h1

theorem noD_spec {o : Oper} {d : Nat} (h : noD ops o d = true) : d ∉ o.looksAt ops ∧ o.dst ≠ some d := by
  unfold noD at h
  rw [Bool.and_eq_true] at h
  refine ⟨fun hm => ?_, fun hd => ?_⟩
  · have := h.1
    simp only [List.all_eq_true, Array.all_eq_true'] at this
    have := this d hm
    simp at this
  · rw [hd] at h
    simp at h

theorem ready_head {p : Nat} {listed listed1 : Array Bool} (h1 : ∀ j, j < p → listed.getD j true = listed1.getD j true) (hback : ∀ i o, i < p → ops[i]? = some o → ∀ e ∈ o.after, Region.binds .any e = true → e.on < i) {i : Nat} (hi : i < p)
    (hsz : p ≤ listed.size) (hsz1 : p ≤ listed1.size) : i ∈ Region.ready .any ops listed ↔ i ∈ Region.ready .any (headOps ops p) listed1 := by
  have hf : ∀ j, j < p → listed.getD j false = listed1.getD j false := fun j hj => by
    have := h1 j hj
    have a1 : j < listed.size := by omega
    have a2 : j < listed1.size := by omega
    simpa [Array.getD, a1, a2] using this
  rw [mem_ready, mem_ready, headOps_get hi, h1 i hi]
  constructor
  · rintro ⟨h2, o, h3, h4⟩
    exact ⟨h2, o, h3, fun e he hb => by rw [← hf e.on (by have := hback i o hi h3 e he hb; omega)]; exact h4 e he hb⟩
  · rintro ⟨h2, o, h3, h4⟩
    exact ⟨h2, o, h3, fun e he hb => by rw [hf e.on (by have := hback i o hi h3 e he hb; omega)]; exact h4 e he hb⟩

theorem getD_set_self {listed : Array Bool} {i : Nat} (d : Bool) (h : i < listed.size) : (listed.setIfInBounds i true).getD i d = true := by
  simp [Array.getD, h]

def ones (A : List Nat) : List (Nat × Bool) := A.map fun a => (a, false)
theorem runG_ones {M : Nat → Nat → Bool} {W : Nat → List AO → Prop} {K : (Nat → List AO → Prop) → (Nat → AV) → List AO → Prop} {l : List (Nat × Bool)} : ∀ (A : List Nat) (ts : Nat → AV) (H : List AO), (∀ a ∈ A, (alOf ops a).isSome = true) →
    runG P G ops M imp K (ones A ++ l) W ts H → runR P G ops imp (fun ts H => runG P G ops M imp K l W ts H) A ts H
  | [], ts, H, hA, h => h
  | a :: A, ts, H, hA, h => by
    have h : stepR P G ops imp a ts H fun ts' H' => (imp a = true → W a H') ∧ runG P G ops M imp K (ones A ++ l) W ts' H' := h
    exact stepR_mono h fun ts' H' h => runG_ones A ts' H' (fun b hb => hA b (by simp [hb])) h.2

end
end
end Go.Ab
