/-
  A region that draws: what only makes a block may be told as late as it is waited for.
-/
import Derived.Test.YtchodnhlkdlgmaaGreatDoorEvR8
set_option linter.unusedVariables false
set_option linter.unusedSimpArgs false
namespace Go.Ab
section
variable {P : Program} {G : Gl} {ops ops' : Array Oper}

theorem ev_op_congr {o : Oper} {ts1 ts2 : Nat → AV} (he : ∀ e ∈ o.looksAt ops, ts1 e = ts2 e) : (∀ x ∈ o.op.operands, ev ts1 x = ev ts2 x) ∧ wantedA ops ts1 o = wantedA ops ts2 o := by
  refine ⟨fun x hx => ?_, ?_⟩
  · cases x with
    | tmp e =>
      refine he e ?_
      simp only [Oper.looksAt, List.mem_append]
      first
        | exact .inl (by simpa using ⟨_, hx, rfl⟩)
        | (left; simp; exact ⟨_, hx, rfl⟩)
    | const v => rfl
    | global g => rfl
    | func g => rfl
  · unfold wantedA
    cases hg : o.guard with
    | none => rfl
    | some g =>
      obtain ⟨j, want⟩ := g
      have : gval ops ts1 j = gval ops ts2 j := by
        unfold gval
        cases hj : (ops[j]?).bind (·.dst) with
        | none => rfl
        | some e =>
          have h3 : ts1 e = ts2 e := he e (by simp [Oper.looksAt, hg, hj])
          simp only [h3]
      simp only [this]
theorem ev_put_looks {o : Oper} {ts : Nat → AV} {dst : Option Nat} {v : AV} (h : ∀ d, dst = some d → d ∉ o.looksAt ops) : ∀ x ∈ o.op.operands, ev (put ts dst v) x = ev ts x :=
  (ev_op_congr (ops := ops) fun e he => by
    cases dst with
    | none => rfl
    | some d =>
      show (if e = d then v else ts e) = ts e
      rw [if_neg (fun e2 => h d rfl (by rw [← e2]; exact he))]).1
theorem mem_looks {o : Oper} {e : Nat} (h : Operand.tmp e ∈ o.op.operands) : e ∈ o.looksAt ops := by
  simp only [Oper.looksAt, List.mem_append]
  first
    | exact .inl (by simpa using ⟨_, h, rfl⟩)
    | (left; simp; exact ⟨_, h, rfl⟩)

structure DelayOk (ops ops' : Array Oper) (A : Nat → Bool) : Prop where
  sz : ops'.size = ops.size
  same : ∀ i, A i = false → ops'[i]? = ops[i]?
  al : ∀ a, A a = true → ∃ o o' d, ops[a]? = some o ∧ ops'[a]? = some o' ∧ o'.op = o.op ∧ o'.dst = o.dst ∧ o'.guard = none ∧ o.dst = some d ∧ o.guard = none ∧ clOf o.op = .alloc ∧
    (∀ e ∈ o.after, Region.binds .any e = true → A e.on = false) ∧ (∀ e ∈ o'.after, Region.binds .any e = true → e.on < ops.size ∧ (A e.on = true → e.on < a))
  ed : ∀ i o, ops[i]? = some o → ∀ e ∈ o.after, Region.binds .any e = true → e.on < i ∧ (A e.on = true → wt ops i e.on = true)
  mw : ∀ i a o', A i = false → A a = true → wt ops i a = true → ops'[a]? = some o' → ∀ e ∈ o'.after, Region.binds .any e = true → wt ops i e.on = true
  lo : ∀ i e, A i = false → i < ops.size → wt ops i e = true → e < i
  hd : ∀ i o, A i = false → ops[i]? = some o → isSelect o.op = false ∧ ∀ a, A a = true → ∀ oa d, ops[a]? = some oa → oa.dst = some d → wt ops i a = true ∨ (d ∉ o.looksAt ops ∧ o.dst ≠ some d)
  dep : ∀ i o, A i = false → ops[i]? = some o → ∀ a, A a = true → ∀ oa, ops[a]? = some oa → (∃ e ∈ oa.after, Region.binds .any e = true ∧ e.on = i) ∨ ∀ d, o.dst = some d → d ∉ oa.looksAt ops
  sep : ∀ a a', A a = true → A a' = true → a ≠ a' → ∀ o o' d, ops[a]? = some o → ops[a']? = some o' → o.dst = some d → o'.dst ≠ some d ∧ d ∉ o'.looksAt ops

theorem gd {l : Array Bool} {j : Nat} (h : j < l.size) : l.getD j false = l.getD j true := by simp [Array.getD, h]

variable {A : Nat → Bool}
theorem DelayOk.mt (hS : DelayOk ops ops' A) (i : Nat) : (ops'[i]?).map (fun o => (o.op, o.dst, o.guard)) = (ops[i]?).map (fun o => (o.op, o.dst, o.guard)) := by
  cases h : A i with
  | false => rw [hS.same i h]
  | true =>
    obtain ⟨o, o', d, h1, h2, h3, h4, h5, h6, h7, _⟩ := hS.al i h
    rw [h1, h2]; simp [h3, h4, h5, h7]
theorem DelayOk.gval (hS : DelayOk ops ops' A) (ts : Nat → AV) (j : Nat) : gval ops' ts j = gval ops ts j := by
  unfold Go.Ab.gval
  have : (ops'[j]?).bind (·.dst) = (ops[j]?).bind (·.dst) := by
    have h := hS.mt j
    cases h1 : ops'[j]? <;> cases h2 : ops[j]? <;> rw [h1, h2] at h <;> simp at h ⊢
    exact h.2.1
  rw [this]
theorem DelayOk.wanted (hS : DelayOk ops ops' A) (ts : Nat → AV) (o : Oper) : wantedA ops' ts o = wantedA ops ts o := by
  unfold wantedA
  cases h : o.guard with
  | none => rfl
  | some g =>
    obtain ⟨j, w⟩ := g
    simp only [hS.gval ts j]

theorem DelayOk.prog (hS : DelayOk ops ops' A) {listed : Array Bool} (hsz : listed.size = ops.size) (h : ∃ j, j < ops.size ∧ listed.getD j true = false) : ∃ i, i ∈ Region.ready .any ops' listed := by
  have key : ∀ i, i < ops.size → A i = false → listed.getD i true = false → ∃ i, i ∈ Region.ready .any ops' listed := by
    intro i
    induction i using Nat.strongRecOn with
    | ind i ih =>
      intro hi hA hu
      by_cases hex : ∃ j, j < i ∧ A j = false ∧ listed.getD j true = false
      · obtain ⟨j, h1, h2, h3⟩ := hex
        exact ih j h1 (by omega) h2 h3
      have hl : ∀ j, j < i → A j = false → listed.getD j true = true := fun j h1 h2 => by
        cases e : listed.getD j true with
        | true => rfl
        | false => exact absurd ⟨j, h1, h2, e⟩ hex
      have sub : ∀ a, A a = true → wt ops i a = true → listed.getD a true = false → ∃ i, i ∈ Region.ready .any ops' listed := by
        intro a
        induction a using Nat.strongRecOn with
        | ind a iha =>
          intro hAa hw hua
          obtain ⟨o, o', d, h1, h2, h3, h4, h5, h6, h7, h8, h9, h10⟩ := hS.al a hAa
          by_cases hex : ∃ e ∈ o'.after, Region.binds .any e = true ∧ listed.getD e.on true = false
          · obtain ⟨e, he, hb, hue⟩ := hex
            have hwe := hS.mw i a o' hA hAa hw h2 e he hb
            cases hAe : A e.on with
            | true => exact iha e.on ((h10 e he hb).2 hAe) hAe hwe hue
            | false =>
              have := hl e.on (hS.lo i e.on hA hi hwe) hAe
              rw [hue] at this; cases this
          · refine ⟨a, mem_ready.2 ⟨hua, o', h2, fun e he hb => ?_⟩⟩
            rw [gd (by rw [hsz]; exact (h10 e he hb).1)]
            cases e1 : listed.getD e.on true with
            | true => rfl
            | false => exact absurd ⟨e, he, hb, e1⟩ hex
      obtain ⟨o, ho⟩ : ∃ o, ops[i]? = some o := ⟨ops[i], by simp [hi]⟩
      by_cases hex2 : ∃ e ∈ o.after, Region.binds .any e = true ∧ listed.getD e.on true = false
      · obtain ⟨e, he, hb, hue⟩ := hex2
        obtain ⟨h1, h2⟩ := hS.ed i o ho e he hb
        cases hAe : A e.on with
        | true => exact sub e.on hAe (h2 hAe) hue
        | false => have := hl e.on h1 hAe; rw [hue] at this; cases this
      · refine ⟨i, mem_ready.2 ⟨hu, o, by rw [hS.same i hA]; exact ho, fun e he hb => ?_⟩⟩
        rw [gd (by rw [hsz]; have := (hS.ed i o ho e he hb).1; omega)]
        cases e1 : listed.getD e.on true with
        | true => rfl
        | false => exact absurd ⟨e, he, hb, e1⟩ hex2
  obtain ⟨j, hj, hu⟩ := h
  by_cases hex : ∃ i, i < ops.size ∧ A i = false ∧ listed.getD i true = false
  · obtain ⟨i, h1, h2, h3⟩ := hex; exact key i h1 h2 h3
  induction j using Nat.strongRecOn with
  | ind j ih =>
    cases hAj : A j with
    | false => exact absurd ⟨j, hj, hAj, hu⟩ hex
    | true =>
      obtain ⟨o, o', d, h1, h2, h3, h4, h5, h6, h7, h8, h9, h10⟩ := hS.al j hAj
      by_cases hex2 : ∃ e ∈ o'.after, Region.binds .any e = true ∧ listed.getD e.on true = false
      · obtain ⟨e, he, hb, hue⟩ := hex2
        obtain ⟨q1, q2⟩ := h10 e he hb
        cases hAe : A e.on with
        | true => exact ih e.on (q2 hAe) q1 hue
        | false => exact absurd ⟨e.on, q1, hAe, hue⟩ hex
      · refine ⟨j, mem_ready.2 ⟨hu, o', h2, fun e he hb => ?_⟩⟩
        rw [gd (by rw [hsz]; exact (h10 e he hb).1)]
        cases e1 : listed.getD e.on true with
        | true => rfl
        | false => exact absurd ⟨e, he, hb, e1⟩ hex2

theorem stepR_alloc {imp : Nat → Bool} {a : Nat} {ts : Nat → AV} {H : List AO} {K : (Nat → AV) → List AO → Prop} {o : Oper} (ho : ops[a]? = some o) (hg : o.guard = none) (hc : clOf o.op = .alloc) (h : stepR P G ops imp a ts H K) :
    ∃ r, aop P G o.op (ev ts) H = some r ∧ r.c ∧ K (put ts o.dst r.v) r.H := by
  unfold stepR at h
  have hw : wantedA ops ts o = true := by simp [wantedA, hg]
  simp only [ho, hw, if_true] at h
  split at h
  · rename_i f args tys hop
    rw [hop, clOf_value] at hc; cases hc
  · exact h

theorem unl_pos {p : Nat} {listed : Array Bool} {i : Nat} (hi : i < p) (hu : listed.getD i true = false) : 0 < unl p listed := by
  unfold unl
  exact List.length_pos_of_mem (List.mem_filter.2 ⟨List.mem_range.2 hi, by rw [hu]; rfl⟩)
theorem unl_zero {p : Nat} {listed : Array Bool} (h : unl p listed = 0) {i : Nat} (hi : i < p) : listed.getD i true = true := by
  cases e : listed.getD i true with
  | true => rfl
  | false => have := unl_pos hi e; omega

section
variable {n : Nat} {imp : Nat → Bool} {K : (Nat → AV) → List AO → Prop}

/-- What will be made later is known now. -/
theorem DelayOk.look (hS : DelayOk ops ops' A) (hops : ops.all (operOk n) = true) (D : List Deferred) (b : Frame) (cs : List Frame) {a : Nat} (hA : A a = true) {oa : Oper} (hoa : ops[a]? = some oa) :
    ∀ (f : Nat) (listed : Array Bool) (ts : Nat → AV) (H : List AO) (E : En) (w : World) (told : Array Value), f = unl ops.size listed → listed.size = ops.size → listed.getD a true = false →
      (∀ e ∈ oa.after, Region.binds .any e = true → listed.getD e.on true = true) → anyR P G ops' imp K f listed ts H → RelH G w E H → RepT w E n ts told →
      ∃ r H', aop P G oa.op (ev ts) H' = some r ∧ r.c := by
  intro f
  have has : a < ops.size := (Array.getElem?_eq_some_iff.1 hoa).1
  induction f with
  | zero => intro listed ts H E w told hf hsz hu _ _ _ _; have := unl_pos has hu; omega
  | succ f ih =>
    intro listed ts H E w told hf hsz hu hdp h hR hT
    obtain ⟨o, o', d, h1, h2, h3, h4, h5, h6, h7, h8, h9, h10⟩ := hS.al a hA
    rw [hoa] at h1; cases h1
    by_cases har : a ∈ Region.ready .any ops' listed
    · obtain ⟨r, q1, q2, _⟩ := stepR_alloc h2 h5 (by rw [h3]; exact h8) (h.2 a har)
      rw [h3] at q1
      exact ⟨r, H, q1, q2⟩
    · obtain ⟨i, hi⟩ := hS.prog hsz ⟨a, has, hu⟩
      have hia : i ≠ a := fun e => har (by rw [← e]; exact hi)
      obtain ⟨hiu, oi', hoi', _⟩ := mem_ready.1 hi
      have his : i < ops.size := by rw [← hS.sz]; exact (Array.getElem?_eq_some_iff.1 hoi').1
      obtain ⟨oi, hoi⟩ : ∃ o, ops[i]? = some o := ⟨ops[i], by simp [his]⟩
      have hmt := hS.mt i
      rw [hoi, hoi'] at hmt
      simp only [Option.map_some, Option.some.injEq, Prod.mk.injEq] at hmt
      have hev : ∀ v, ∀ x ∈ oa.op.operands, ev (put ts oi'.dst v) x = ev ts x := fun v => ev_put_looks (ops := ops) fun d' hd' => by
        rw [hmt.2.1] at hd'
        cases hAi : A i with
        | true => exact (hS.sep i a hAi hA hia oi oa d' hoi hoa hd').2
        | false =>
          rcases hS.dep i oi hAi hoi a hA oa hoa with ⟨e, he, hb, rfl⟩ | hd
          · rw [hdp e he hb] at hiu; cases hiu
          · exact hd d' hd'
      have hoo : operOk n oi' = true := by
        have := (Array.all_eq_true'.1 hops) oi (Array.mem_of_getElem? hoi)
        unfold operOk at this ⊢
        rw [hmt.1, hmt.2.1]; exact this
      have hf' : f = unl ops.size (listed.setIfInBounds i true) := by
        have := unl_set his hsz hiu; omega
      have next : ∀ (v : AV) (H1 : List AO) (E1 : En) (w1 : World) (told1 : Array Value), anyR P G ops' imp K f (listed.setIfInBounds i true) (put ts oi'.dst v) H1 → RelH G w1 E1 H1 → RepT w1 E1 n (put ts oi'.dst v) told1 → ∃ r H', aop P G oa.op (ev ts) H' = some r ∧ r.c := fun v H1 E1 w1 told1 hK hR1 hT1 => by
        obtain ⟨r, H', q1, q2⟩ := ih (listed.setIfInBounds i true) (put ts oi'.dst v) H1 E1 w1 told1 hf' (by simp [hsz]) (by rw [getD_set_ne true hia]; exact hu) (fun e he hb => by
          by_cases e2 : i = e.on
          · rw [e2, getD_set_self true (by rw [hsz]; have := (hS.ed a oa hoa e he hb).1; omega)]
          · rw [getD_set_ne true e2]; exact hdp e he hb) hK hR1 hT1
        rw [aop_congr (hev v)] at q1
        exact ⟨r, H', q1, q2⟩
      obtain ⟨o2, ho2, hcase⟩ := stepR_op (h.2 i hi)
      rw [hoi'] at ho2; cases ho2
      rcases hcase with ⟨hw, hdf, hop⟩ | ⟨hw, hop⟩
      · obtain ⟨v, H1, E1, w1, r, hK1, hH1, hg1, hr1, _⟩ := hop n E w told hR hT hoo D b cs
        exact next v H1 E1 w1 _ hK1 hH1 ((hT.mono hg1.mono).put hr1 oi'.dst)
      · exact next .un H E w _ hop hR (hT.put (v := .un) (r := undef) (.tup (by rfl) (fun i hi => by simp at hi)) oi'.dst)
end
end
end Go.Ab
