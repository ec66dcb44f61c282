/-
  Blocks made ahead of their time: variables, rows, boxes; told when their time comes.
-/
import Derived.Test.YtchodnhlkdlgmaaGreatDoorEvR7
set_option linter.unusedVariables false
set_option linter.unusedSimpArgs false
namespace Go.Ab
section
variable {P : Program} {G : Gl} {ops : Array Oper} {n : Nat}

/-- Operation a makes a block of what ts holds. -/
def FrAt (P : Program) (G : Gl) (o : Oper) (ts : Nat → AV) (d : Nat) (ao : AO) (mk : Nat → AV) : Prop :=
  o.dst = some d ∧ o.guard = none ∧ clOf o.op = .alloc ∧ ∃ c : Prop, c ∧ ∀ H', aop P G o.op (ev ts) H' = some ⟨c, mk H'.length, H' ++ [ao]⟩
def FrOk (P : Program) (G : Gl) (ops : Array Oper) (a : Nat) (ts : Nat → AV) : Prop := ∃ o d ao mk, ops[a]? = some o ∧ FrAt P G o ts d ao mk

theorem FrAt.congr {o : Oper} {ts ts' : Nat → AV} {d : Nat} {ao : AO} {mk : Nat → AV} (h : FrAt P G o ts d ao mk) (he : ∀ x ∈ o.op.operands, ev ts' x = ev ts x) : FrAt P G o ts' d ao mk := by
  obtain ⟨h1, h2, h3, c, hc, h4⟩ := h
  exact ⟨h1, h2, h3, c, hc, fun H' => by rw [aop_congr he]; exact h4 H'⟩

def MadeB (w : World) (E : En) (b : Nat) (ao : AO) (mk : Nat → AV) (obj : Obj) (sz : Nat) (q : Value) : Prop :=
  ∀ (w' : World) (E' : En) (id : Nat), Mono w E w' E' → w'.heap[b]? = some obj → E'.loc id = some ⟨b, 0, sz⟩ → RelO w' E' ao ⟨b, 0, sz⟩ ∧ RepV w' E' (mk id) q

structure PendF (P : Program) (G : Gl) (ops : Array Oper) (lo : Nat) (B : Nat → Option Nat) (ts : Nat → AV) (H : List AO) (E : En) (w : World) (tmps told : Array Value) : Prop where
  blk : ∀ a b, B a = some b → ∃ o d ao mk vs t sz q, ops[a]? = some o ∧ FrAt P G o ts d ao mk ∧ w.heap[b]? = some (.cells vs t (0, 0)) ∧ lo ≤ b ∧ ¬ Live H E b ∧ ¬ E.fro b ∧
    tmps.getD d undef = q ∧ d < tmps.size ∧ MadeB w E b ao mk (.cells vs t (0, 0)) sz q
  inj : ∀ a a' b, B a = some b → B a' = some b → a = a'
  size : told.size = tmps.size
  same : ∀ i, (∀ a b o, B a = some b → ops[a]? = some o → o.dst ≠ some i) → tmps.getD i undef = told.getD i undef

theorem PendF.grow {lo : Nat} {B : Nat → Option Nat} {ts : Nat → AV} {H H' : List AO} {E E' : En} {w w' : World} {tmps told : Array Value} (h : PendF P G ops lo B ts H E w tmps told) (g : Grow H E w H' E' w') : PendF P G ops lo B ts H' E' w' tmps told :=
  ⟨fun a b hb => by
    obtain ⟨o, d, ao, mk, vs, t, sz, q, h1, h2, h4, h5, h6, h7, h8, h9, h10⟩ := h.blk a b hb
    have hlt := heap_lt h4
    refine ⟨o, d, ao, mk, vs, t, sz, q, h1, h2, by rw [g.same b hlt h6]; exact h4, h5, fun hl => ?_, fun hf => ?_, h8, h9, fun w2 E2 id hm => h10 w2 E2 id (g.mono.trans hm)⟩
    · rcases g.newlive b hl with h | h
      · exact h6 h
      · omega
    · rcases g.newfro b hf with h | h | h
      · exact h7 h
      · omega
      · exact h6 h, h.inj, h.size, h.same⟩

theorem PendF.put {lo : Nat} {B : Nat → Option Nat} {ts : Nat → AV} {H : List AO} {E : En} {w : World} {tmps told : Array Value} (h : PendF P G ops lo B ts H E w tmps told) {dst : Option Nat} {v : AV}
    (hd : ∀ a b o, B a = some b → ops[a]? = some o → (∀ e, o.dst = some e → dst ≠ some e) ∧ ∀ x ∈ o.op.operands, ev (Go.Ab.put ts dst v) x = ev ts x) (r : Value) : PendF P G ops lo B (Go.Ab.put ts dst v) H E w (cput tmps dst r) (cput told dst r) :=
  ⟨fun a b hb => by
    obtain ⟨o, d, ao, mk, vs, t, sz, q, h1, h2, h4, h5, h6, h7, h8, h9, h10⟩ := h.blk a b hb
    obtain ⟨k1, k2⟩ := hd a b o hb h1
    exact ⟨o, d, ao, mk, vs, t, sz, q, h1, h2.congr k2, h4, h5, h6, h7, by rw [getD_cput (k1 d h2.1)]; exact h8, by rw [size_cput]; exact h9, h10⟩, h.inj, by rw [size_cput, size_cput]; exact h.size, fun i hi => by
    by_cases e : dst = some i
    · subst e
      by_cases hl : i < tmps.size
      · rw [getD_cput_same hl, getD_cput_same (by rw [h.size]; exact hl)]
      · show (tmps.setIfInBounds i r).getD i undef = (told.setIfInBounds i r).getD i undef
        have hl2 : ¬ i < told.size := by rw [h.size]; exact hl
        simp [Array.getD, hl, hl2]
    · rw [getD_cput e, getD_cput e]; exact h.same i hi⟩

/-- One more block made ahead of its time. -/
theorem PendF.more {lo : Nat} {B : Nat → Option Nat} {ts : Nat → AV} {H : List AO} {E : En} {w : World} {tmps told : Array Value} (hR : RelH G w E H) (h : PendF P G ops lo B ts H E w tmps told) (hlo : lo ≤ w.heap.size) {a d : Nat} {o : Oper} {ao : AO} {mk : Nat → AV}
    {vs : Array Value} {t : TypeId} {sz : Nat} {q : Value} (ha : ops[a]? = some o) (hfr : FrAt P G o ts d ao mk) (hBa : B a = none) (hd : d < tmps.size) (hmade : MadeAt w E ao mk (.cells vs t (0, 0)) sz q)
    (hdis : ∀ a' b' o', B a' = some b' → ops[a']? = some o' → o'.dst ≠ some d) :
    PendF P G ops lo (fun j => if j = a then some w.heap.size else B j) ts H E (w.alloc (.cells vs t)) (cput tmps (some d) q) told := by
  have hg := (rel_alloc_plain hR (Obj.cells vs t (0, 0))).2
  have hg' := h.grow hg
  have hnl : ¬ Live H E w.heap.size := fun hl => by have := Live.lt hR hl; omega
  have hnf : ¬ E.fro w.heap.size := fun hf => by
    obtain ⟨c, t, f, hc⟩ := hR.frob _ hf
    have := heap_lt hc
    omega
  refine ⟨fun j b hb => ?_, fun j j' b hb hb' => ?_, by rw [size_cput]; exact h.size, fun i hi => ?_⟩
  · by_cases e : j = a
    · subst e
      simp only [if_true] at hb
      cases hb
      exact ⟨o, d, ao, mk, vs, t, sz, q, ha, hfr, getElem?_alloc_new w _, hlo, hnl, hnf, getD_cput_same hd, by rw [size_cput]; exact hd, fun w2 E2 id hm => hmade w2 E2 id (hg.mono.trans hm)⟩
    · simp only [if_neg e] at hb
      obtain ⟨o', d', ao', mk', vs', t', sz', q', h1, h2, h4, h5, h6, h7, h8, h9, h10⟩ := hg'.blk j b hb
      refine ⟨o', d', ao', mk', vs', t', sz', q', h1, h2, h4, h5, h6, h7, ?_, by rw [size_cput]; exact h9, h10⟩
      rw [getD_cput (fun e2 => ?_)]; exact h8
      cases e2
      exact hdis j b o' hb h1 h2.1
  · by_cases e : j = a <;> by_cases e' : j' = a
    · rw [e, e']
    · simp only [if_pos e, if_neg e'] at hb hb'
      cases hb
      obtain ⟨_, _, _, _, _, _, _, _, _, _, h4, _⟩ := h.blk j' _ hb'
      have := heap_lt h4
      omega
    · simp only [if_neg e, if_pos e'] at hb hb'
      cases hb'
      obtain ⟨_, _, _, _, _, _, _, _, _, _, h4, _⟩ := h.blk j _ hb
      have := heap_lt h4
      omega
    · simp only [if_neg e, if_neg e'] at hb hb'
      exact h.inj j j' b hb hb'
  · have hid : i ≠ d := fun e => hi a w.heap.size o (by simp) ha (by rw [e]; exact hfr.1)
    rw [getD_cput (fun e => hid (by cases e; rfl))]
    refine h.same i fun a' b' o' hb' h1 => ?_
    by_cases e : a' = a
    · subst e; rw [hBa] at hb'; cases hb'
    · exact hi a' b' o' (by simp [e, hb']) h1

/-- Its time has come. -/
theorem PendF.flush {lo : Nat} {B : Nat → Option Nat} {ts : Nat → AV} {H : List AO} {E : En} {w : World} {tmps told : Array Value} (hR : RelH G w E H) (hT : RepT w E n ts told) (h : PendF P G ops lo B ts H E w tmps told) {a b d : Nat} {o : Oper} {ao : AO} {mk : Nat → AV}
    (hB : B a = some b) (ha : ops[a]? = some o) (hfr : FrAt P G o ts d ao mk) (hsep : ∀ a' b' o', a' ≠ a → B a' = some b' → ops[a']? = some o' → o'.dst ≠ some d ∧ ∀ x ∈ o'.op.operands, x ≠ .tmp d)
    {H0 : List AO} {E0 : En} {w0 : World} (hG : Grow H0 E0 w0 H E w) (hlo : w0.heap.size ≤ lo) :
    ∃ E' told', RelH G w E' (H ++ [ao]) ∧ RepT w E' n (Go.Ab.put ts (some d) (mk H.length)) told' ∧ PendF P G ops lo (fun j => if j = a then none else B j) (Go.Ab.put ts (some d) (mk H.length)) (H ++ [ao]) E' w tmps told' ∧ Grow H0 E0 w0 (H ++ [ao]) E' w ∧ Mono w E w E' := by
  obtain ⟨o1, d1, ao1, mk1, vs, t, sz, q, h1, h2, h4, h5, h6, h7, h8, h9, h10⟩ := h.blk a b hB
  rw [ha] at h1; cases h1
  have e1 : d1 = d := by have := h2.1; rw [hfr.1] at this; cases this; rfl
  subst e1
  have e2 : ao1 = ao ∧ ∀ H' : List AO, mk1 H'.length = mk H'.length := by
    obtain ⟨_, _, _, c1, _, k1⟩ := h2
    obtain ⟨_, _, _, c2, _, k2⟩ := hfr
    refine ⟨?_, fun H' => ?_⟩
    · have := (k1 []).symm.trans (k2 [])
      simp only [Option.some.injEq, AR.mk.injEq, List.nil_append, List.cons.injEq, and_true] at this
      exact this.2.2
    · have := (k1 H').symm.trans (k2 H')
      simp only [Option.some.injEq, AR.mk.injEq] at this
      exact this.2.1
  obtain ⟨rfl, e3⟩ := e2
  obtain ⟨g1, g2, g3, g4⟩ := rel_track hR ao1 ⟨b, 0, sz⟩ (fun E' hm hl => (h10 w E' H.length hm h4 hl).1) h6 h7
  have hrep : RepV w (E.put H.length ⟨b, 0, sz⟩) (mk H.length) q := by rw [← e3 H]; exact (h10 w _ H.length g2 h4 g4).2
  refine ⟨_, cput told (some d1) q, g1, (hT.mono g2).put hrep (some d1), ⟨fun j b' hb' => ?_, fun j j' b' hb hb' => ?_, by rw [size_cput]; exact h.size, fun i hi => ?_⟩, ?_, g2⟩
  · by_cases e : j = a
    · subst e; simp at hb'
    · simp only [if_neg e] at hb'
      obtain ⟨o', d', ao', mk', vs', t', sz', q', k1, k2, k4, k5, k6, k7, k8, k9, k10⟩ := h.blk j b' hb'
      refine ⟨o', d', ao', mk', vs', t', sz', q', k1, k2.congr (fun x hx => ev_put fun e' he' => by cases he'; exact (hsep j b' o' e hb' k1).2 x hx), k4, k5, fun hl => ?_, k7, k8, k9, fun w2 E2 id hm => k10 w2 E2 id (g2.trans hm)⟩
      rcases g3 b' hl with hl | hl
      · exact k6 hl
      · subst hl; exact e (h.inj j a _ hb' hB)
  · by_cases e : j = a
    · subst e; simp at hb
    · by_cases e' : j' = a
      · subst e'; simp at hb'
      · simp only [if_neg e, if_neg e'] at hb hb'
        exact h.inj j j' b' hb hb'
  · by_cases e : i = d1
    · subst e
      rw [getD_cput_same (by rw [h.size]; exact h9)]; exact h8
    · rw [getD_cput (fun e2 => e (by cases e2; rfl))]
      refine h.same i fun a' b' o' hb' q1 => ?_
      by_cases e' : a' = a
      · subst e'; rw [ha] at q1; cases q1; rw [hfr.1]; intro e2; cases e2; exact e rfl
      · exact hi a' b' o' (by simp [e', hb']) q1
  · refine ⟨hG.mono.trans g2, hG.size, hG.same, fun b' hf => hG.newfro b' hf, fun b' hl => ?_, hG.os, hG.tape, hG.output⟩
    rcases g3 b' hl with hl | hl
    · exact hG.newlive b' hl
    · exact .inr (by rw [hl]; show w0.heap.size ≤ b; omega)
end
end Go.Ab
