/-
  The operations are sound, continued: append, clear; maps.
-/
import Derived.Test.YtchodnhlkdlgmaaGreatDoorEvQ
import Derived.Laws.AppendOwn
set_option linter.unusedVariables false
set_option linter.unusedSimpArgs false
namespace Go.Ab
section
variable {P : Program} {G : Gl} {n : Nat} {o : Oper} {ts : Nat → AV} {H H' : List AO} {v : AV} {C : Prop}

/-- One object's block is written; a new object stands for it, the old one is gone. -/
theorem rel_move {w w' : World} {E : En} (h : RelH G w E H) {id : Nat} {o : AO} {l : Loc} (hH : H[id]? = some o) (ho : o.live = true) (hloc : E.loc id = some l)
    (ao : AO) (l' : Loc) (hb : l'.b = l.b) (hsz : w'.heap.size = w.heap.size) (hoth : ∀ b, b ≠ l.b → w'.heap[b]? = w.heap[b]?) (hrow : ∀ n, rowSize w l.b = some n → rowSize w' l.b = some n)
    (hos : w'.os = w.os) (htape : w'.tape = w.tape) (hout : w'.output = w.output)
    (hr : Mono w E w' (E.put H.length l') → RelO w' (E.put H.length l') ao l') :
    RelH G w' (E.put H.length l') (H.set id .dead ++ [ao]) ∧ Grow H E w (H.set id .dead ++ [ao]) (E.put H.length l') w' ∧ (E.put H.length l').loc H.length = some l' := by
  obtain ⟨h1, g1⟩ := rel_write h hH ho hloc .dead hsz hoth hrow hos htape hout (fun _ => trivial)
  have hlen : (H.set id AO.dead).length = H.length := List.length_set
  have hid : id < H.length := (List.getElem?_eq_some_iff.1 hH).1
  have hm2 : Mono w' E w' (E.put H.length l') := by
    have := mono_put h1 l'
    rwa [hlen] at this
  have hm := g1.mono.trans hm2
  have hnew : (E.put H.length l').loc H.length = some l' := by simp [En.put]
  have hold : ∀ j, j < H.length → (E.put H.length l').loc j = E.loc j := fun j hj => by
    show (if j = H.length then some l' else E.loc j) = E.loc j
    rw [if_neg (by omega)]
  have hget : ∀ j oj, (H.set id AO.dead ++ [ao])[j]? = some oj → (j < H.length ∧ (H.set id AO.dead)[j]? = some oj) ∨ (j = H.length ∧ oj = ao) := by
    intro j oj hj
    rcases Nat.lt_trichotomy j H.length with q | q | q
    · rw [List.getElem?_append_left (by rw [hlen]; exact q)] at hj; exact .inl ⟨q, hj⟩
    · subst q
      rw [List.getElem?_append_right (by rw [hlen]; exact Nat.le_refl _), hlen] at hj
      simp at hj; exact .inr ⟨rfl, hj.symm⟩
    · rw [List.getElem?_append_right (by rw [hlen]; omega)] at hj
      rw [List.getElem?_eq_none (by simp; omega)] at hj; cases hj
  have hdd : ∀ j oj, (H.set id AO.dead)[j]? = some oj → oj.live = true → j ≠ id ∧ H[j]? = some oj := by
    intro j oj hj hoj
    by_cases e : id = j
    · subst e; rw [List.getElem?_set_self hid] at hj; cases hj; simp [AO.live] at hoj
    · rw [List.getElem?_set_ne e] at hj; exact ⟨fun q => e q.symm, hj⟩
  have hne : ∀ j oj lj, (H.set id AO.dead)[j]? = some oj → oj.live = true → E.loc j = some lj → lj.b ≠ l.b := fun j oj lj hj hoj hlj e =>
    (hdd j oj hj hoj).1 (h.inj j id oj o lj l (hdd j oj hj hoj).2 hoj hH ho hlj hloc e)
  refine ⟨⟨?_, ?_, ?_, ?_, ?_, ?_⟩, ⟨hm, by omega, fun b _ hb' => hoth b (fun e => hb' ⟨id, o, l, hH, ho, hloc, e.symm⟩), fun _ q => .inl q, ?_, hos, htape, hout⟩, hnew⟩
  · intro j oj hj hoj
    rcases hget j oj hj with ⟨q1, q2⟩ | ⟨q1, q2⟩
    · obtain ⟨lj, hlj, hrj⟩ := h1.obj j oj q2 hoj
      exact ⟨lj, by rw [hold j q1]; exact hlj, hrj.mono hm2 rfl⟩
    · subst q1; subst q2; exact ⟨l', hnew, hr hm⟩
  · intro j j' o1 o2 l1 l2 hj1 ho1 hj2 ho2 hl1 hl2 he
    rcases hget j o1 hj1 with ⟨q1, q1'⟩ | ⟨q1, q1'⟩ <;> rcases hget j' o2 hj2 with ⟨q2, q2'⟩ | ⟨q2, q2'⟩
    · rw [hold j q1] at hl1; rw [hold j' q2] at hl2
      exact h1.inj j j' o1 o2 l1 l2 q1' ho1 q2' ho2 hl1 hl2 he
    · rw [hold j q1] at hl1; subst q2; rw [hnew] at hl2; cases hl2
      exact absurd (he.trans hb) (hne j o1 l1 q1' ho1 hl1)
    · rw [hold j' q2] at hl2; subst q1; rw [hnew] at hl1; cases hl1
      exact absurd (he.symm.trans hb) (hne j' o2 l2 q2' ho2 hl2)
    · omega
  · intro b hb'
    obtain ⟨c, t, f, hc⟩ := h1.frob b hb'
    exact ⟨c, t, f, hc⟩
  · rintro b hb' ⟨j, oj, lj, hj, hoj, hlj, rfl⟩
    rcases hget j oj hj with ⟨q1, q2⟩ | ⟨q1, q2⟩
    · rw [hold j q1] at hlj
      exact h1.sep _ hb' ⟨j, oj, lj, q2, hoj, hlj, rfl⟩
    · subst q1; rw [hnew] at hlj; cases hlj
      rw [hb] at hb'
      exact h.sep _ hb' ⟨id, o, l, hH, ho, hloc, rfl⟩
  · intro j lj hlj
    rw [List.length_append, hlen]
    by_cases e : j = H.length
    · simp [e]
    · have q : E.loc j = some lj := by
        have q2 : (if j = H.length then some l' else E.loc j) = some lj := hlj
        rwa [if_neg e] at q2
      have := h.dom j lj q
      simp; omega
  · intro g cs hg; exact (h.gl g cs hg).mono hm
  · rintro b ⟨j, oj, lj, hj, hoj, hlj, rfl⟩
    rcases hget j oj hj with ⟨q1, q2⟩ | ⟨q1, q2⟩
    · rw [hold j q1] at hlj
      exact .inl ⟨j, oj, lj, (hdd j oj q2 hoj).2, hoj, hlj, rfl⟩
    · subst q1; rw [hnew] at hlj; cases hlj
      exact .inl ⟨id, o, l, hH, ho, hloc, hb.symm⟩

/-! ### What is handed to append -/

theorem getD_map_range {α : Type} (f : Nat → α) (m q : Nat) (hq : q < m) (d : α) : ((List.range m).map f).getD q d = f q := by
  simp [List.getD, hq]

theorem getD_toArray {α : Type} (l : List α) (q : Nat) (d : α) : l.toArray.getD q d = l.getD q d := by
  simp [List.getD, Array.getD_eq_getD_getElem?]

theorem elsOf_sound {w : World} {E : En} (hH : RelH G w E H) {x : AV} {r : Value} (hx : RepV w E x r) {sz : Nat} {c : Prop} {els : List AV} (h : elsOf H sz x = some (c, els)) (hc : c) (hsz : 0 < sz) :
    ∃ vs : List Value, RepR w E sz els vs.toArray ∧ (Builtin.lenOf r).run P w = .ok els.length w ∧ ∀ w' : World, w'.heap = w.heap → (Builtin.firstCells sz els.length r).run P w' = .ok vs.toArray w' := by
  have hcell : ∀ (w' : World), w'.heap = w.heap → ∀ a : Addr, w'.cell? a = w.cell? a := fun w' hw a => cell?_of_heap (by rw [hw])
  have hnil : ∀ (a : Option Addr) (cc : Nat), ∃ vs : List Value, RepR w E sz [] vs.toArray ∧ (Builtin.lenOf (.slice a 0 cc)).run P w = .ok ([] : List AV).length w ∧ ∀ w' : World, w'.heap = w.heap → (Builtin.firstCells sz ([] : List AV).length (.slice a 0 cc)).run P w' = .ok vs.toArray w' := by
    intro a cc
    refine ⟨[], ⟨by simp, fun i hi => by simp at hi⟩, rfl, fun w' hw => ?_⟩
    cases a <;> simp [Builtin.firstCells, loadCells, loadCellsFrom]
  unfold elsOf at h
  split at h
  · rename_i id st len cap
    split at h
    · rename_i sz' es ho
      split at h
      · rename_i hcnd
        obtain ⟨rfl, hle⟩ := hcnd
        cases h
        cases hx with | @sl _ _ _ _ l ad cc hl h1 h2 h3 =>
        obtain ⟨l', hl', hs, cs, t, hcs, hbd, hr⟩ := hH.obj id _ ho rfl
        rw [hl] at hl'; cases hl'
        have hlen : ((es.drop st).take len).length = len := by rw [List.length_take, List.length_drop]; omega
        by_cases h0 : len = 0
        · subst h0
          have := hnil (some ad) cc
          simpa using this
        · obtain ⟨rfl, m, hm1, hm2⟩ := h3 (by omega)
          refine ⟨(List.range (len * sz')).map fun q => cs.getD (l.base + st * sz' + q) undef, ⟨by simp [hlen], fun i hi => ?_⟩, by rw [hlen]; rfl, fun w' hw => ?_⟩
          · rw [hlen] at hi
            have e1 : ((es.drop st).take len).getD i .un = es.getD (st + i) .un := getD_drop_take es .un st len i hi hle
            obtain ⟨g1, g2, g3⟩ := hr (st + i) (by omega)
            rw [e1]
            refine ⟨g1, g2, fun j hj => ⟨(g3 j hj).1, ?_⟩⟩
            have hq : i * sz' + j < len * sz' := by
              have : (i + 1) * sz' ≤ len * sz' := Nat.mul_le_mul_right _ hi
              rw [Nat.add_mul] at this; omega
            rw [getD_toArray, getD_map_range _ _ _ hq]
            have := (g3 j hj).2
            rw [show l.base + st * sz' + (i * sz' + j) = l.base + (st + i) * sz' + j by rw [Nat.add_mul]; omega]
            exact this
          · rw [hlen]
            have hll : ((List.range (len * sz')).map fun q => cs.getD (l.base + st * sz' + q) undef).length = len * sz' := by simp
            refine run_firstCells_some w' sz' len _ len cc _ hll (fun j u hju => ?_)
            have hj : j < len * sz' := by
              have := (List.getElem?_eq_some_iff.1 hju).1
              simpa using this
            have hu : u = cs.getD (l.base + st * sz' + j) undef := by
              rw [List.getElem?_map, List.getElem?_range hj] at hju
              simpa using hju.symm
            rw [addr_add, hcell w' hw, hs, hu]
            refine cell?_row' hcs ?_
            have : st * sz' + len * sz' ≤ es.length * sz' := by rw [← Nat.add_mul]; exact Nat.mul_le_mul_right _ hle
            omega
      · cases h
    · cases h
  · rename_i es
    cases h
    cases hx with | @isl _ ad cc sz0 f hf hcc he hce hci hre =>
    by_cases h0 : els.length = 0
    · have : els = [] := List.eq_nil_of_length_eq_zero h0
      subst this
      exact hnil (some ad) cc
    · have hs0 : sz0 = sz := by rw [← (he 0 (by omega)).2]; exact hc (by omega)
      subst hs0
      have hdm : ∀ i j, j < sz0 → (i * sz0 + j) / sz0 = i ∧ (i * sz0 + j) % sz0 = j := fun i j hj => by
        constructor
        · rw [Nat.mul_comm, Nat.mul_add_div hsz, Nat.div_eq_of_lt hj, Nat.add_zero]
        · rw [Nat.mul_comm, Nat.mul_add_mod, Nat.mod_eq_of_lt hj]
      refine ⟨(List.range (els.length * sz0)).map fun q => f (q / sz0) (q % sz0), ⟨by simp, fun i hi => ⟨(he i hi).1, (he i hi).2, fun j hj => ⟨hci i j hi hj, ?_⟩⟩⟩, rfl, fun w' hw => ?_⟩
      · have hq : i * sz0 + j < els.length * sz0 := by
          have : (i + 1) * sz0 ≤ els.length * sz0 := Nat.mul_le_mul_right _ hi
          rw [Nat.add_mul] at this; omega
        rw [getD_toArray, getD_map_range _ _ _ hq, (hdm i j hj).1, (hdm i j hj).2]
        exact hre i j hi hj
      · have hll : ((List.range (els.length * sz0)).map fun q => f (q / sz0) (q % sz0)).length = els.length * sz0 := by simp
        refine run_firstCells_some w' sz0 els.length ad els.length cc _ hll (fun q u hju => ?_)
        have hq : q < els.length * sz0 := by
          have := (List.getElem?_eq_some_iff.1 hju).1
          simpa using this
        have hu : u = f (q / sz0) (q % sz0) := by
          rw [List.getElem?_map, List.getElem?_range hq] at hju
          simpa using hju.symm
        have hi : q / sz0 < els.length := Nat.div_lt_of_lt_mul (by rw [Nat.mul_comm]; exact hq)
        have hj : q % sz0 < sz0 := Nat.mod_lt _ hsz
        have := hce (q / sz0) (q % sz0) hi hj
        have e : ad.off + q / sz0 * sz0 + q % sz0 = ad.off + q := by
          have := Nat.div_add_mod q sz0
          rw [Nat.mul_comm] at this; omega
        rw [e] at this
        have hsp := (hf (by omega)).2
        obtain ⟨b, of, sp⟩ := ad
        simp only at hsp this
        subst hsp
        rw [addr_add, hcell w' hw, hu]
        exact this
  · cases h
    cases hx
    exact hnil none 0
  · cases h
    cases hx
    exact hnil _ 0
  · cases h

theorem RepR.append {w : World} {E : En} {sz : Nat} {es es' : List AV} {vs vs' : List Value} (h : RepR w E sz es vs.toArray) (h' : RepR w E sz es' vs'.toArray) (more : List Value) :
    ∀ i, i < (es ++ es').length → ((es ++ es').getD i .un).isEl = true ∧ ((es ++ es').getD i .un).cells.length = sz ∧
      ∀ j, j < sz → (((es ++ es').getD i .un).cells.getD j .un).isCell = true ∧ RepV w E (((es ++ es').getD i .un).cells.getD j .un) ((vs ++ vs' ++ more).getD (i * sz + j) undef) := by
  have hl : vs.length = es.length * sz := by simpa using h.1
  have hl' : vs'.length = es'.length * sz := by simpa using h'.1
  intro i hi
  have hpos : ∀ i m j, i < m → j < sz → i * sz + j < m * sz := fun i m j h1 h2 => by
    have : (i + 1) * sz ≤ m * sz := Nat.mul_le_mul_right _ h1
    rw [Nat.add_mul] at this; omega
  by_cases h1 : i < es.length
  · have e : (es ++ es').getD i .un = es.getD i .un := by simp [List.getD, List.getElem?_append_left h1]
    rw [e]
    obtain ⟨a, b, c⟩ := h.2 i h1
    refine ⟨a, b, fun j hj => ⟨(c j hj).1, ?_⟩⟩
    have hp := hpos i es.length j h1 hj
    have e2 : (vs ++ vs' ++ more).getD (i * sz + j) undef = vs.getD (i * sz + j) undef := by
      rw [List.append_assoc]
      simp [List.getD, List.getElem?_append_left (show i * sz + j < vs.length by omega)]
    rw [e2]
    have := (c j hj).2
    rwa [getD_toArray] at this
  · have h2 : i - es.length < es'.length := by simp at hi; omega
    have e : (es ++ es').getD i .un = es'.getD (i - es.length) .un := by simp [List.getD, List.getElem?_append_right (show es.length ≤ i by omega)]
    rw [e]
    obtain ⟨a, b, c⟩ := h'.2 _ h2
    refine ⟨a, b, fun j hj => ⟨(c j hj).1, ?_⟩⟩
    have hp := hpos _ es'.length j h2 hj
    have hq : i * sz + j = vs.length + ((i - es.length) * sz + j) := by
      rw [hl, ← Nat.add_assoc, ← Nat.add_mul]
      congr 2; omega
    have e2 : (vs ++ vs' ++ more).getD (i * sz + j) undef = vs'.getD ((i - es.length) * sz + j) undef := by
      rw [hq, List.append_assoc]
      simp only [List.getD]
      rw [List.getElem?_append_right (by omega), Nat.add_sub_cancel_left, List.getElem?_append_left (by omega)]
    rw [e2]
    have := (c j hj).2
    rwa [getD_toArray] at this

theorem run_append_g {t u ty e e' : TypeId} {i : TypeInfo} {z : Value} (ht : P.underlying t = some (.slice e)) (hu : P.underlying u = some (.slice e')) (hi : P.info? e = some i) (hz : i.zero = some z)
    {tys : Array TypeId} {args : Array Value} (ht0 : tys[0]? = some t) (ht1 : tys[1]? = some u) {base : Option Addr} {sLen sCap : Nat} {x : Value} (h0 : args[0]? = some (.slice base sLen sCap)) (h1 : args[1]? = some x) {w : World} {m : Nat} {olds news : List Value}
    (hlen : (Builtin.lenOf x).run P w = .ok m w) (hold : ∀ w' : World, w'.heap = w.heap → (Builtin.firstCells i.size sLen (.slice base sLen sCap)).run P w' = .ok olds.toArray w')
    (hnew : ∀ w' : World, w'.heap = w.heap → (Builtin.firstCells i.size m x).run P w' = .ok news.toArray w')
    (hg : sCap < sLen + m) (h63 : sLen + m ≤ 2 ^ 40) (hby : (sLen + m) * i.bytes ≤ 2 ^ 40) :
    (Builtin.append_ tys ty args).run P w = .ok (.slice (some ⟨w.heap.size, 0, none⟩) (sLen + m) (grownCap w (sLen + m) sCap e))
      (w.drew.alloc (.cells (olds ++ news ++ (Builtin.zeroCells z.cells (grownCap w (sLen + m) sCap e - (sLen + m))).toList).toArray e)) := by
  have hn : ¬ (sLen + m ≤ sCap) := by omega
  have h63' : ¬ (9223372036854775807 < ((sLen : Int) + (m : Int))) := by omega
  have hfit := growslice_fits (need := sLen + m) (old := sCap) (bytes := i.bytes) (by omega) (by omega)
  have h48' : ¬ (281474976710656 < Builtin.nextslicecap (sLen + m) sCap * i.bytes) := by omega
  have hf := hnew w.drew rfl
  have hfo := hold w.drew rfl
  simp [Builtin.append_, ht0, ht1, h0, h1, run_underlying ht, run_underlying hu, sizeOf, typeInfo, zeroValue, hi, hz, hlen, hn, h63', h48', Question.forced, hf, hfo, newRow, grownCap]
  congr 2
  apply Array.ext'
  simp [List.append_assoc]

theorem run_append_r {t u ty e e' : TypeId} {i : TypeInfo} (ht : P.underlying t = some (.slice e)) (hu : P.underlying u = some (.slice e')) (hi : P.info? e = some i)
    {tys : Array TypeId} {args : Array Value} (ht0 : tys[0]? = some t) (ht1 : tys[1]? = some u) {a : Addr} {sLen sCap : Nat} {x : Value} (h0 : args[0]? = some (.slice (some a) sLen sCap)) (h1 : args[1]? = some x) {w w' : World} {m : Nat} {news : List Value}
    (hlen : (Builtin.lenOf x).run P w = .ok m w)
    (hnew : (Builtin.firstCells i.size m x).run P w = .ok news.toArray w) (hst : (storeCells (a.add (sLen * i.size)) news).run P w = .ok () w')
    (hg : sLen + m ≤ sCap) :
    (Builtin.append_ tys ty args).run P w = .ok (.slice (some a) (sLen + m) sCap) w' := by
  simp [Builtin.append_, ht0, ht1, h0, h1, run_underlying ht, run_underlying hu, sizeOf, typeInfo, hi, hlen, hg, hnew, hst]

theorem run_append_0 {t u ty e e' : TypeId} {i : TypeInfo} (ht : P.underlying t = some (.slice e)) (hu : P.underlying u = some (.slice e')) (hi : P.info? e = some i)
    {tys : Array TypeId} {args : Array Value} (ht0 : tys[0]? = some t) (ht1 : tys[1]? = some u) {a : Option Addr} {sLen sCap : Nat} {x : Value} (h0 : args[0]? = some (.slice a sLen sCap)) (h1 : args[1]? = some x) {w : World}
    (hlen : (Builtin.lenOf x).run P w = .ok 0 w) (hnew : (Builtin.firstCells i.size 0 x).run P w = .ok #[] w) (hg : sLen ≤ sCap) :
    (Builtin.append_ tys ty args).run P w = .ok (.slice a sLen sCap) w := by
  cases a <;> simp [Builtin.append_, ht0, ht1, h0, h1, run_underlying ht, run_underlying hu, sizeOf, typeInfo, hi, hlen, hg, hnew, storeCells]

theorem info_of_zeroEl {t : TypeId} {z : AV} (h : zeroEl P t = some z) {b : Nat} (hb : bytesT P t = some b) : ∃ i zv, P.info? t = some i ∧ i.zero = some zv ∧ i.bytes = b ∧ i.size = z.cells.length ∧ 0 < z.cells.length ∧ zv.cells.size = z.cells.length := by
  obtain ⟨zv, hzv, hzc, rfl, hs, hpos⟩ := zeroEl_inv h
  obtain ⟨h1, _⟩ := zero_rep hzc (default : World) ⟨fun _ => none, fun _ => False⟩
  cases hi : P.info? t with
  | none => simp [bytesT, hi] at hb
  | some i =>
    refine ⟨i, zv, rfl, ?_, by simpa [bytesT, hi] using hb, by simpa [szT, hi] using hs, hpos, h1⟩
    simpa [hi] using hzv
end
end Go.Ab
