/-
  A region that draws: what only makes a block may be told as late as it is waited for (the machine).
-/
import Derived.Test.YtchodnhlkdlgmaaGreatDoorEvR11
set_option linter.unusedVariables false
set_option linter.unusedSimpArgs false
namespace Go.Ab
section
variable {P : Program} {G : Gl} {ops ops' : Array Oper} {A : Nat → Bool} {rd : Option Nat} {n : Nat} {imp : Nat → Bool} {K : (Nat → AV) → List AO → Prop} {b : Frame} {H0 : List AO} {E0 : En} {w0 : World}

structure StD (P : Program) (G : Gl) (ops ops' : Array Oper) (A : Nat → Bool) (rd : Option Nat) (n : Nat) (imp : Nat → Bool) (K : (Nat → AV) → List AO → Prop) (b : Frame) (H0 : List AO) (E0 : En) (w0 : World) (listed : Array Bool) (tmps : Array Value) (D : List Deferred) (w : World)
    (B : Nat → Option Nat) (listed1 : Array Bool) (ts : Nat → AV) (H : List AO) (E : En) (told : Array Value) : Prop where
  s0 : listed.size = ops.size
  s1 : listed1.size = ops.size
  c1 : Closed ops' listed1
  r1 : ∀ j, j < ops.size → listed1.getD j true = (listed.getD j true && !(B j).isSome)
  ba : ∀ a bk, B a = some bk → A a = true ∧ listed.getD a true = true
  gm : anyR P G ops' imp K (unl ops.size listed1) listed1 ts H
  hR : RelH G w E H
  hT : RepT w E n ts told
  pd : PendF P G ops w0.heap.size B ts H E w tmps told
  hG : Grow H0 E0 w0 H E w
  rr : RoundRel E b rd
  hD : MarksOk w D

variable {listed : Array Bool} {tmps : Array Value} {D : List Deferred} {w : World}

theorem StD.flushOne (hS : DelayOk ops ops' A) {B : Nat → Option Nat} {listed1 : Array Bool} {ts : Nat → AV} {H : List AO} {E : En} {told : Array Value} (h : StD P G ops ops' A rd n imp K b H0 E0 w0 listed tmps D w B listed1 ts H E told)
    {a bk : Nat} (hB : B a = some bk) (hdp : ∀ o', ops'[a]? = some o' → ∀ e ∈ o'.after, Region.binds .any e = true → listed1.getD e.on true = true) :
    ∃ listed2 ts' H' E' told', StD P G ops ops' A rd n imp K b H0 E0 w0 listed tmps D w (fun j => if j = a then none else B j) listed2 ts' H' E' told' := by
  obtain ⟨hA, hla⟩ := h.ba a bk hB
  obtain ⟨o, o', d, h1, h2, h3, h4, h5, h6, h7, h8, h9, h10⟩ := hS.al a hA
  have has : a < ops.size := (Array.getElem?_eq_some_iff.1 h1).1
  have hu : listed1.getD a true = false := by rw [h.r1 a has, hB]; simp
  have har : a ∈ Region.ready .any ops' listed1 := mem_ready.2 ⟨hu, o', h2, fun e he hb => by rw [gd (by rw [h.s1]; exact (h10 e he hb).1)]; exact hdp o' h2 e he hb⟩
  have hg := h.gm
  rw [unl_set has h.s1 hu] at hg
  obtain ⟨r, q1, q2, q3⟩ := stepR_alloc h2 h5 (by rw [h3]; exact h8) (hg.2 a har)
  rw [h3] at q1
  rw [h4, h6] at q3
  obtain ⟨o1, d1, ao, mk, _, _, _, _, k1, k2, _⟩ := h.pd.blk a bk hB
  rw [h1] at k1; cases k1
  have ed : d1 = d := by have := k2.1; rw [h6] at this; cases this; rfl
  subst ed
  obtain ⟨_, _, _, c, hc, k3⟩ := id k2
  rw [k3 H] at q1
  cases q1
  obtain ⟨E', told', g1, g2, g3, g4, g5⟩ := h.pd.flush h.hR h.hT hB h1 k2 (fun a' b' oa' hne hB' hoa' => by
    obtain ⟨hA', _⟩ := h.ba a' b' hB'
    obtain ⟨s1, s2⟩ := hS.sep a a' hA hA' (Ne.symm hne) o oa' d1 h1 hoa' h6
    exact ⟨s1, fun x hx e => s2 (mem_looks (by rw [← e]; exact hx))⟩) h.hG (Nat.le_refl _)
  refine ⟨listed1.setIfInBounds a true, _, _, E', told', h.s0, by simp [h.s1], h.c1.set har, fun j hj => ?_, fun a' b' hb' => ?_, q3, g1, g2, g3, g4, h.rr.mono g5, h.hD⟩
  · by_cases e : j = a
    · subst e; rw [getD_set_self true (by rw [h.s1]; exact hj)]; simp [hla]
    · rw [getD_set_ne true (Ne.symm e), h.r1 j hj]; simp [e]
  · by_cases e : a' = a
    · subst e; simp at hb'
    · simp only [if_neg e] at hb'; exact h.ba a' b' hb'

/-- All that F asks for is told. -/
theorem StD.flushTo (hS : DelayOk ops ops' A) {F : Nat → Bool} (hF : ∀ a o', A a = true → F a = true → ops'[a]? = some o' → ∀ e ∈ o'.after, Region.binds .any e = true → listed.getD e.on true = true ∧ (A e.on = true → F e.on = true)) :
    ∀ (m : Nat) (B : Nat → Option Nat) (listed1 : Array Bool) (ts : Nat → AV) (H : List AO) (E : En) (told : Array Value), StD P G ops ops' A rd n imp K b H0 E0 w0 listed tmps D w B listed1 ts H E told →
    ∃ B' listed2 ts' H' E' told', StD P G ops ops' A rd n imp K b H0 E0 w0 listed tmps D w B' listed2 ts' H' E' told' ∧ (∀ a, B' a = if F a = true ∧ a < m then none else B a)
  | 0, B, listed1, ts, H, E, told, h => ⟨B, listed1, ts, H, E, told, h, fun a => by simp⟩
  | m + 1, B, listed1, ts, H, E, told, h => by
    obtain ⟨B1, l1, ts1, H1, E1, t1, h1, hb1⟩ := StD.flushTo hS hF m B listed1 ts H E told h
    have skip : (F m = false ∨ B1 m = none) → ∃ B' listed2 ts' H' E' told', StD P G ops ops' A rd n imp K b H0 E0 w0 listed tmps D w B' listed2 ts' H' E' told' ∧ (∀ a, B' a = if F a = true ∧ a < m + 1 then none else B a) := fun hh =>
      ⟨B1, l1, ts1, H1, E1, t1, h1, fun a => by
        by_cases e : a = m
        · subst e
          rcases hh with hh | hh
          · rw [hb1 a]; simp [hh]
          · cases hf : F a with
            | false => rw [hb1 a]; simp [hf]
            | true => rw [hh]; simp
        · rw [hb1 a]
          have : (a < m + 1) = (a < m) := by apply propext; omega
          simp only [this]⟩
    cases hf : F m with
    | false => exact skip (.inl hf)
    | true =>
      cases hbm : B1 m with
      | none => exact skip (.inr hbm)
      | some bk =>
        obtain ⟨hA, hla⟩ := h1.ba m bk hbm
        obtain ⟨o, o', d, q1, q2, q3, q4, q5, q6, q7, q8, q9, q10⟩ := hS.al m hA
        obtain ⟨l2, ts2, H2, E2, t2, h2⟩ := h1.flushOne hS hbm (fun oo hoo e he hb => by
          rw [q2] at hoo; cases hoo
          obtain ⟨p1, p2⟩ := hF m o' hA hf q2 e he hb
          obtain ⟨p3, p4⟩ := q10 e he hb
          rw [h1.r1 e.on p3, p1]
          cases hAe : A e.on with
          | true =>
            have : B1 e.on = none := by rw [hb1 e.on, if_pos ⟨p2 hAe, p4 hAe⟩]
            rw [this]; rfl
          | false =>
            have : B1 e.on = none := by
              cases hx : B1 e.on with
              | none => rfl
              | some y => have := (h1.ba _ _ hx).1; rw [hAe] at this; cases this
            rw [this]; rfl)
        refine ⟨_, l2, ts2, H2, E2, t2, h2, fun a => ?_⟩
        by_cases e : a = m
        · subst e; simp [hf]
        · simp only [if_neg e]
          rw [hb1 a]
          have : (a < m + 1) = (a < m) := by apply propext; omega
          simp only [this]

variable {k : List Item} {Q : Lv → (Nat → AV) → List AO → Prop}

theorem StD.run (hS : DelayOk ops ops' A) (hops : ops.all (operOk n) = true) (hkk : todoOk n k = true) {cs : List Frame} :
    ∀ (fuel t : Nat) (listed : Array Bool) (tmps : Array Value) (w : World) (B : Nat → Option Nat) (listed1 : Array Bool) (ts : Nat → AV) (H : List AO) (E : En) (told : Array Value), fuel = unl ops.size listed → Closed ops listed →
      StD P G ops ops' A rd n imp (fun ts H => FW P G rd n k ts H Q) b H0 E0 w0 listed tmps D w B listed1 ts H E told →
      FWc P G rd n Q b D cs H0 E0 w0 (lone (frm b tmps (.inRegion ops (Region.linearise.go .any ops fuel t listed []) :: k) D) cs w) := by
  intro fuel
  induction fuel with
  | zero =>
    intro t listed tmps w B listed1 ts H E told hf hcl h
    simp only [Region.linearise.go, List.reverse_nil]
    obtain ⟨B1, l1, ts1, H1, E1, t1, h1, hb1⟩ := h.flushTo hS (F := fun _ => true) (fun a o' hA _ ho' e he hb => by
      obtain ⟨o, o2, d, q1, q2, q3, q4, q5, q6, q7, q8, q9, q10⟩ := hS.al a hA
      rw [q2] at ho'; cases ho'
      exact ⟨unl_zero hf.symm (q10 e he hb).1, fun _ => rfl⟩) ops.size
    have hn : ∀ a, B1 a = none := fun a => by
      by_cases ha : a < ops.size
      · rw [hb1 a, if_pos ⟨rfl, ha⟩]
      · cases hx : B1 a with
        | none => rfl
        | some y =>
          obtain ⟨o, _, _, q1, _⟩ := hS.al a (h1.ba _ _ hx).1
          exact absurd (Array.getElem?_eq_some_iff.1 q1).1 ha
    have hz : unl ops.size l1 = 0 := by
      unfold unl
      rw [List.length_eq_zero_iff, List.filter_eq_nil_iff]
      intro i hi
      rw [List.mem_range] at hi
      rw [h1.r1 i hi, hn i, unl_zero hf.symm hi]; simp
    have hg := h1.gm
    rw [hz] at hg
    have e : tmps = t1 := array_ext_getD h1.pd.size.symm fun i => h1.pd.same i fun a b o hb _ => by rw [hn a] at hb; cases hb
    subst e
    exact FW.toc (FW.regionEnd hg.2) (by rw [todoOk_cons, Bool.and_eq_true]; exact ⟨hops, hkk⟩) h1.hR h1.hT h1.rr h1.hD h1.hG
  | succ fuel ih =>
    intro t listed tmps w B listed1 ts H E told hf hcl h
    simp only [Region.linearise.go]
    change FWc P G rd n Q b D cs H0 E0 w0 (lone (frm b tmps (.inRegion ops (match (Region.ready .any ops listed)[t % (Region.ready .any ops listed).length]? with
      | some i => Region.linearise.go .any ops fuel (t / (Region.ready .any ops listed).length) (listed.setIfInBounds i true) [i]
      | none => [].reverse) :: k) D) cs w)
    have hex : ∃ i, i ∈ Region.ready .any ops listed := by
      have : ∃ j, j < ops.size ∧ listed.getD j true = false := by
        have : 0 < ((List.range ops.size).filter fun i => !listed.getD i true).length := by
          have : unl ops.size listed = fuel + 1 := hf.symm
          unfold unl at this; omega
        obtain ⟨j, hj⟩ := List.exists_mem_of_length_pos this
        rw [List.mem_filter, List.mem_range] at hj
        exact ⟨j, hj.1, by simpa using hj.2⟩
      obtain ⟨j, hj, hu⟩ := this
      induction j using Nat.strongRecOn with
      | ind j ihj =>
        obtain ⟨o, ho⟩ : ∃ o, ops[j]? = some o := ⟨ops[j], by simp [hj]⟩
        by_cases hex2 : ∃ e ∈ o.after, Region.binds .any e = true ∧ listed.getD e.on true = false
        · obtain ⟨e, he, hb, hue⟩ := hex2
          have := (hS.ed j o ho e he hb).1
          exact ihj e.on this (by omega) hue
        · refine ⟨j, mem_ready.2 ⟨hu, o, ho, fun e he hb => ?_⟩⟩
          rw [gd (by rw [h.s0]; have := (hS.ed j o ho e he hb).1; omega)]
          cases e1 : listed.getD e.on true with
          | true => rfl
          | false => exact absurd ⟨e, he, hb, e1⟩ hex2
    cases hi : (Region.ready .any ops listed)[t % (Region.ready .any ops listed).length]? with
    | none =>
      exfalso
      obtain ⟨j, hj⟩ := hex
      cases hr : Region.ready .any ops listed with
      | nil => rw [hr] at hj; cases hj
      | cons x xs =>
        rw [hr] at hi
        have hlt : t % (x :: xs).length < (x :: xs).length := Nat.mod_lt _ (by simp)
        simp at hi
        simp at hlt
        omega
    | some i =>
      simp only []
      rw [linearise_go_acc, List.reverse_singleton, List.singleton_append]
      have hir : i ∈ Region.ready .any ops listed := List.mem_of_getElem? hi
      obtain ⟨hiu, o, ho, haft⟩ := mem_ready.1 hir
      have his : i < ops.size := (Array.getElem?_eq_some_iff.1 ho).1
      have hf' : fuel = unl ops.size (listed.setIfInBounds i true) := by
        have := unl_set his h.s0 hiu; omega
      have hoo : operOk n o = true := (Array.all_eq_true'.1 hops) o (Array.mem_of_getElem? ho)
      generalize hrest : Region.linearise.go .any ops fuel (t / (Region.ready .any ops listed).length) (listed.setIfInBounds i true) [] = rest
      have hwait : ∀ e, wt ops i e = true → listed.getD e true = true := fun e hw => by
        cases e1 : listed.getD e true with
        | true => rfl
        | false => have := masks_wait (ops := ops) hcl hir (i := e) e1; unfold wt at hw; rw [this] at hw; cases hw
      cases hAi : A i with
      | false =>
        obtain ⟨B1, l1, ts1, H1, E1, t1, h1, hb1⟩ := h.flushTo hS (F := fun a => wt ops i a) (fun a o' hA hw ho' e he hb => by
          have hwe := hS.mw i a o' hAi hA hw ho' e he hb
          exact ⟨hwait e.on hwe, fun _ => hwe⟩) ops.size
        have hBi : ∀ j, A j = false → B1 j = none := fun j hj => by
          cases hx : B1 j with
          | none => rfl
          | some y => have := (h1.ba _ _ hx).1; rw [hj] at this; cases this
        have hi1 : l1.getD i true = false := by rw [h1.r1 i his, hiu]; rfl
        have hir1 : i ∈ Region.ready .any ops' l1 := mem_ready.2 ⟨hi1, o, by rw [hS.same i hAi]; exact ho, fun e he hb => by
          obtain ⟨p1, p2⟩ := hS.ed i o ho e he hb
          rw [gd (by rw [h1.s1]; omega), h1.r1 e.on (by omega)]
          have p3 := haft e he hb
          rw [gd (by rw [h.s0]; omega)] at p3
          rw [p3]
          cases hAe : A e.on with
          | false => rw [hBi _ hAe]; rfl
          | true => rw [hb1 e.on, if_pos ⟨p2 hAe, by omega⟩]; rfl⟩
        have hg := h1.gm
        rw [unl_set his h1.s1 hi1] at hg
        obtain ⟨hsel, hap⟩ := hS.hd i o hAi ho
        have hap' : ∀ a bk oa d, B1 a = some bk → ops[a]? = some oa → oa.dst = some d → d ∉ o.looksAt ops ∧ o.dst ≠ some d := fun a bk oa d hb hoa hd => by
          rcases hap a (h1.ba a bk hb).1 oa d hoa hd with hw | hn
          · rw [hb1 a, if_pos ⟨hw, (Array.getElem?_eq_some_iff.1 hoa).1⟩] at hb; cases hb
          · exact hn
        have hev : ∀ x, (∀ e, x = Operand.tmp e → e ∈ o.looksAt ops) → Act.eval ⟨tmps, D⟩ x = Act.eval ⟨t1, D⟩ x := fun x hx => by
          cases x with
          | tmp e =>
            exact h1.pd.same e fun a bk oa hb hoa hed => by
              exact (hap' a bk oa e hb hoa hed).1 (hx e rfl)
          | const v => rfl
          | global g => rfl
          | func g => rfl
        have hopx : ∀ x ∈ o.op.operands, Act.eval ⟨tmps, D⟩ x = Act.eval ⟨t1, D⟩ x := fun x hx => hev x fun e he => by subst he; exact mem_looks hx
        have hex2 : execOp (Act.eval ⟨tmps, D⟩) o = execOp (Act.eval ⟨t1, D⟩) o := execOp_congr o (fun cs b e => by rw [e] at hsel; cases hsel) hopx
        have hwt : Region.wanted o (yielded ops tmps) = Region.wanted o (yielded ops t1) := by
          unfold Region.wanted
          cases hg : o.guard with
          | none => rfl
          | some g =>
            obtain ⟨j, want⟩ := g
            have : yielded ops tmps j = yielded ops t1 j := by
              unfold yielded
              cases hj : (ops[j]?).bind (·.dst) with
              | none => rfl
              | some e =>
                have he : e ∈ o.looksAt ops := by simp [Oper.looksAt, hg, hj]
                have hs : tmps.getD e undef = t1.getD e undef := h1.pd.same e fun a bk oa hb hoa hed => (hap' a bk oa e hb hoa hed).1 he
                have hz : t1.size = tmps.size := h1.pd.size
                by_cases hl : e < tmps.size
                · have e1 : tmps[e]? = some (tmps.getD e undef) := by simp [Array.getD, hl]
                  have e2 : t1[e]? = some (t1.getD e undef) := by simp [Array.getD, hz, hl]
                  simp only [Option.bind_some, e1, e2, hs]
                · have e1 : tmps[e]? = none := Array.getElem?_eq_none (Nat.le_of_not_lt hl)
                  have e2 : t1[e]? = none := Array.getElem?_eq_none (by rw [hz]; exact Nat.le_of_not_lt hl)
                  simp only [Option.bind_some, e1, e2]
            simp only [this]
        have hdn : ∀ v a bk oa, B1 a = some bk → ops[a]? = some oa → (∀ e, oa.dst = some e → o.dst ≠ some e) ∧ ∀ x ∈ oa.op.operands, ev (put ts1 o.dst v) x = ev ts1 x := fun v a bk oa hb hoa => by
          obtain ⟨hAa, hla⟩ := h1.ba a bk hb
          refine ⟨fun e he => (hap' a bk oa e hb hoa he).2, ev_put_looks (ops := ops) fun d hd => ?_⟩
          rcases hS.dep i o hAi ho a hAa oa hoa with ⟨e, he, hbd, rfl⟩ | hdd
          · have has : a < ops.size := (Array.getElem?_eq_some_iff.1 hoa).1
            have := hcl a oa hoa (by rw [gd (by rw [h.s0]; exact has)]; exact hla) e he hbd
            rw [gd (by rw [h.s0]; exact his)] at this
            rw [hiu] at this; cases this
          · exact hdd d hd
        have next : ∀ (v : AV) (H' : List AO) (E' : En) (w' : World) (r : Value), anyR P G ops' imp (fun ts H => FW P G rd n k ts H Q) (unl ops.size (l1.setIfInBounds i true)) (l1.setIfInBounds i true) (put ts1 o.dst v) H' → RelH G w' E' H' → Grow H1 E1 w H' E' w' →
            RepT w' E' n (put ts1 o.dst v) (cput t1 o.dst r) → FWc P G rd n Q b D cs H0 E0 w0 (lone (frm b (cput tmps o.dst r) (.inRegion ops rest :: k) D) cs w') := fun v H' E' w' r hA hR' hG' hT' => by
          rw [← hrest]
          refine ih _ (listed.setIfInBounds i true) _ w' B1 (l1.setIfInBounds i true) _ H' E' _ hf' (hcl.set hir) ⟨by simp [h.s0], by simp [h1.s1], h1.c1.set hir1, fun j hj => ?_, fun a bk hb => ?_, hA, hR', hT', (h1.pd.grow hG').put (hdn v) r, h1.hG.trans hG', h1.rr.mono hG'.mono, h1.hD.grow h1.hR hG'⟩
          · by_cases e : j = i
            · subst e; rw [getD_set_self true (by rw [h1.s1]; exact hj), getD_set_self true (by rw [h.s0]; exact hj), hBi j hAi]; rfl
            · rw [getD_set_ne true (Ne.symm e), getD_set_ne true (Ne.symm e)]; exact h1.r1 j hj
          · obtain ⟨q1, q2⟩ := h1.ba a bk hb
            refine ⟨q1, ?_⟩
            by_cases e : i = a
            · subst e; rw [hAi] at q1; cases q1
            · rw [getD_set_ne true e]; exact q2
        have hstep := hg.2 i hir1
        obtain ⟨o', ho', hcase⟩ := stepR_op hstep
        rw [hS.same i hAi, ho] at ho'; cases ho'
        rw [hS.wanted ts1 o] at hcase
        rcases hcase with ⟨hw, hdf, hop⟩ | ⟨hw, hop⟩
        · have hwr : Region.wanted o (yielded ops tmps) = true := by rw [hwt, wanted_eq hops h1.hT]; exact hw
          obtain ⟨v, H2, E2, w2, r, hK1, hH1, hg1, hr1, hrun⟩ := hop n E1 w t1 h1.hR h1.hT hoo D (frm b tmps (.inRegion ops (i :: rest) :: k) D) cs
          have hT1 := (h1.hT.mono hg1.mono).put hr1 o.dst
          refine FWc.head ?_ (next v H2 E2 w2 r hK1 hH1 hg1 hT1)
          have hst := stepG_frm_op (P := P) (b := b) (tmps := tmps) (rest := rest) (k := k) (D := D) (cs := cs) (w := w) ho hwr hdf
          have hfin := finish_frm b tmps ops i rest k D r o ho
          rw [hex2] at hst
          rcases hrun with hr | ⟨hr, rfl⟩ | ⟨f, args, w3, hr, hsteps⟩ | ⟨l, f, tm, a, bb, w3, hr, hsteps⟩
          · refine .one (step_lone_go ?_)
            rw [hst, ← hfin]; simp [stepG.apply, hr]
          · refine .one (step_lone_go ?_)
            rw [hst, ← hfin]; simp [stepG.apply, hr]
          · refine .head (step_lone_go ?_) (hfin ▸ hsteps)
            rw [hst]; simp [stepG.apply, hr, frm]
          · refine .head (step_lone_go ?_) (hfin ▸ hsteps)
            rw [hst]; simp [stepG.apply, hr, frm]
        · have hwr : Region.wanted o (yielded ops tmps) = false := by rw [hwt, wanted_eq hops h1.hT]; exact hw
          have hT1 := h1.hT.put (v := .un) (r := undef) (.tup (by rfl) (fun i hi => by simp at hi)) o.dst
          refine FWc.head (.one (step_lone_go ?_)) (next .un H1 E1 w undef hop h1.hR (Grow.refl _ _ _) hT1)
          rw [← finish_frm b tmps ops i rest k D undef o ho]
          simp [stepG, stepG.exec, frm, ho, hwr]
      | true =>
        obtain ⟨o1, o', d, q1, q2, q3, q4, q5, q6, q7, q8, q9, q10⟩ := hS.al i hAi
        rw [ho] at q1; cases q1
        have hBi : B i = none := by
          cases hx : B i with
          | none => rfl
          | some y => have := (h.ba _ _ hx).2; rw [hiu] at this; cases this
        have hi1 : listed1.getD i true = false := by rw [h.r1 i his, hiu]; rfl
        obtain ⟨r, H', k1, k2⟩ := hS.look hops D b cs hAi ho _ listed1 ts H E w told rfl h.s1 hi1 (fun e he hb => by
          have p1 := (hS.ed i o ho e he hb).1
          have p2 := haft e he hb
          rw [gd (by rw [h.s0]; omega)] at p2
          rw [h.r1 e.on (by omega), p2]
          cases hx : B e.on with
          | none => rfl
          | some y => have := (h.ba _ _ hx).1; rw [q9 e he hb] at this; cases this) h.gm h.hR h.hT
        obtain ⟨ao0, mk0, _, _, k3⟩ := aop_fresh q8 k1
        have k4 := k3 (ev ts) H (fun _ _ => rfl)
        obtain ⟨ao, mk, vs, ty, sz, q, _, _, k5, k6, k7⟩ := fresh_run (n := n) (o := o) (ts := ts) q8 k4 k2 h.hR h.hT hoo D
        have hfr : FrAt P G o ts d ao mk := ⟨q6, q7, q8, _, k2, fun H' => k5 (ev ts) H' (fun _ _ => rfl)⟩
        have hdn : d < tmps.size := by
          rw [← h.pd.size, h.hT.1]
          have hoo := hoo
          simp only [operOk, q6, Bool.and_eq_true, decide_eq_true_eq] at hoo
          exact hoo.1
        have hsepB : ∀ a bk oa, B a = some bk → ops[a]? = some oa → ∀ e, oa.dst = some e → o.dst ≠ some e ∧ e ∉ o.looksAt ops := fun a bk oa hb hoa e he => by
          obtain ⟨hAa, hla⟩ := h.ba a bk hb
          exact hS.sep a i hAa hAi (fun e => by subst e; rw [hBi] at hb; cases hb) oa o e hoa ho he
        have hopx : ∀ x ∈ o.op.operands, Act.eval ⟨tmps, D⟩ x = Act.eval ⟨told, D⟩ x := fun x hx => by
          cases x with
          | tmp e =>
            exact h.pd.same e fun a bk oa hb hoa hed => (hsepB a bk oa hb hoa e hed).2 (mem_looks hx)
          | const v => rfl
          | global g => rfl
          | func g => rfl
        have hex2 : execOp (Act.eval ⟨tmps, D⟩) o = execOp (Act.eval ⟨told, D⟩) o := execOp_congr o (fun cs b e => by rw [e] at q8; cases q8) hopx
        have hwr : Region.wanted o (yielded ops tmps) = true := by simp [Region.wanted, q7]
        have hdf : isDefer o.op = false := aop_defer k4
        have hst := stepG_frm_op (P := P) (b := b) (tmps := tmps) (rest := rest) (k := k) (D := D) (cs := cs) (w := w) ho hwr hdf
        have hfin := finish_frm b tmps ops i rest k D q o ho
        have hal := rel_alloc_plain h.hR (Obj.cells vs ty (0, 0))
        have hp' := h.pd.more h.hR h.hG.size ho hfr hBi hdn k7 (fun a' b' oa' hb' hoa' e => (hsepB a' b' oa' hb' hoa' d e).1 q6)
        refine FWc.head (.one (step_lone_go ?_)) (s' := lone (frm b (cput tmps (some d) q) (.inRegion ops rest :: k) D) cs (w.alloc (.cells vs ty))) ?_
        · rw [q6] at hfin
          rw [hst, hex2, ← hfin]; simp [stepG.apply, k6]
        · rw [← hrest]
          refine ih _ (listed.setIfInBounds i true) _ (w.alloc (.cells vs ty)) _ listed1 ts H E told hf' (hcl.set hir) ⟨by simp [h.s0], h.s1, h.c1, fun j hj => ?_, fun a bk hb => ?_, h.gm, hal.1, h.hT.mono hal.2.mono, hp', h.hG.trans hal.2, h.rr.mono hal.2.mono, h.hD.grow h.hR hal.2⟩
          · by_cases e : j = i
            · subst e; rw [hi1]; simp
            · rw [getD_set_ne true (Ne.symm e)]; simp only [if_neg e]; exact h.r1 j hj
          · by_cases e : a = i
            · subst e; exact ⟨hAi, getD_set_self true (by rw [h.s0]; exact his)⟩
            · simp only [if_neg e] at hb
              rw [getD_set_ne true (Ne.symm e)]; exact h.ba a bk hb

/-- A region that draws. -/
theorem FW.delay (hm : P.follows .mixedOrders = true) (hS : DelayOk ops ops' A) {id : Nat} {ts : Nat → AV} {H : List AO}
    (h : anyR P G ops' imp (fun ts H => FW P G rd n k ts H Q) ops.size (Array.replicate ops.size false) ts H) : FW P G rd n (.code (.region id ops true) :: k) ts H Q := by
  intro hk E w tmps hH hT b D cs hrd
  have hD : MarksOk w D := trivial
  have hk' := hk
  rw [todoOk_cons, Bool.and_eq_true] at hk'
  have hops : ops.all (operOk n) = true := by simpa [itemOk, codeOk] using hk'.1
  have hH1 := rel_same hH (w' := { w with drawn := w.drawn + 1 }) rfl
  have hG : Grow H E w H E { w with drawn := w.drawn + 1 } := ⟨hH1.2, Nat.le_refl _, fun _ _ _ => rfl, fun _ h => .inl h, fun _ h => .inl h, rfl, rfl, rfl⟩
  have hcl0 : ∀ (o : Array Oper) (m : Nat), Closed o (Array.replicate m false) := fun o m j oj ho hl => by
    exfalso
    rcases Nat.lt_or_ge j m with h1 | h1 <;> simp [Array.getD, h1] at hl
  have hun : unl ops.size (Array.replicate ops.size false) = ops.size := by
    unfold unl
    rw [List.filter_eq_self.2, List.length_range]
    intro i hi
    rw [List.mem_range] at hi
    simp [Array.getD, hi]
  have := StD.run (rd := rd) (n := n) (k := k) (Q := Q) (imp := imp) (b := b) (H0 := H) (E0 := E) (w0 := w) (D := D) (cs := cs) hS hops hk'.2 ops.size (w.tape w.drawn (.order b.fn id)) (Array.replicate ops.size false) tmps { w with drawn := w.drawn + 1 } (fun _ => none) (Array.replicate ops.size false) ts H E tmps hun.symm (hcl0 _ _)
    ⟨by simp, by simp, hcl0 _ _, fun j hj => by simp [Array.getD, hj], fun a bk h => (by cases h), by rw [hun]; exact h, hH1.1, hT.mono hH1.2, ⟨fun a bk h => (by cases h), fun a a' bk h => (by cases h), rfl, fun i _ => rfl⟩, hG, hrd, hD⟩
  obtain ⟨L, ts', H', E', w', tmps', D', todo', q1, h2, h3, h4, h6, h7, h8⟩ := this
  refine ⟨L, ts', H', E', w', tmps', D', todo', q1, h2, h3, h4, h6, h7, h8.pre P (.one (step_lone_go ?_))⟩
  simp [stepG, stepG.exec, frm, Region.schedule, Region.linearise, hm, choose, Sem.run, Question.forced, Question.cut]
end
end Go.Ab
