/- One of the texts that this claim stands on. -/
import Derived.Test.YtfahngokbdndmaaGreatDoorEv8
set_option linter.unusedVariables false
set_option linter.unusedSimpArgs false
namespace Go.Ab
section
variable {P : Program} {G : Gl} {n : Nat} {o : Oper} {ts : Nat → AV} {H H' : List AO} {v : AV} {C : Prop}
def frzCap (a : AV) (H : List AO) : AV × List AO :=
  match a with
  | .ptr id 0 => match H[id]? with
    | some (.cells cs) => if AV.purL cs = true then (.iptr cs 0, H.set id .dead) else (a, H)
    | _ => (a, H)
  | a => (a, H)
theorem frzCap_sound {w : World} {E : En} (hH : RelH G w E H) {a : AV} {r : Value} (hr : RepV w E a r) :
    ∃ E', RelH G w E' (frzCap a H).2 ∧ Grow H E w (frzCap a H).2 E' w ∧ RepV w E' (frzCap a H).1 r := by
  unfold frzCap
  split
  · rename_i id
    split
    · rename_i cs hid
      split
      · rename_i hp
        cases hr with | @ptr _ _ l hl =>
        obtain ⟨l', hl', c, t, hc, hs, hcr⟩ := hH.obj id _ hid rfl
        rw [hl] at hl'; cases hl'
        let E' : En := { E with fro := fun b => E.fro b ∨ b = l.b }
        have hm : Mono w E w E' := ⟨fun b hb => .inl hb, fun _ _ => rfl, fun _ _ h => h, fun _ _ h => h⟩
        obtain ⟨h1, g1⟩ := rel_drop hH id
        have hlv : Live H E l.b := ⟨id, _, l, hid, rfl, hl, rfl⟩
        have hnl : ¬ Live (H.set id .dead) E l.b := by
          rintro ⟨j, oj, lj, hj, hoj, hlj, he⟩
          by_cases e : id = j
          · subst e
            rw [List.getElem?_set_self (List.getElem?_eq_some_iff.1 hid).1] at hj
            cases hj; simp [AO.live] at hoj
          · rw [List.getElem?_set_ne e] at hj
            exact e (hH.inj id j _ oj l lj hid rfl hj hoj hl hlj he.symm)
        have hR : RelH G w E' (H.set id .dead) := by
          refine ⟨fun j oj hj hoj => ?_, h1.inj, fun b hb => ?_, fun b hb hlb => ?_, h1.dom, fun g cs hg => (h1.gl g cs hg).mono hm⟩
          · obtain ⟨lj, hlj, hrj⟩ := h1.obj j oj hj hoj
            exact ⟨lj, hlj, hrj.mono hm rfl⟩
          · rcases hb with hb | rfl
            · exact h1.frob b hb
            · exact ⟨c, t, _, hc⟩
          · rcases hb with hb | rfl
            · exact h1.sep b hb hlb
            · exact hnl hlb
        refine ⟨E', hR, ⟨hm, Nat.le_refl _, fun _ _ _ => rfl, fun b hb => ?_, fun b hb => g1.newlive b hb, rfl, rfl, rfl⟩, ?_⟩
        · rcases hb with hb | rfl
          · exact .inl hb
          · exact .inr (.inr hlv)
        · exact .iptr (f := fun j => c.getD (l.base + j) undef) (.inr rfl) (fun j hj => cell?_row' hc (by omega)) (fun j hj => (hcr j hj).1) (fun j hj => ((hcr j hj).2.mono hm))
      · exact ⟨E, hH, Grow.refl _ _ _, hr⟩
    · exact ⟨E, hH, Grow.refl _ _ _, hr⟩
  · exact ⟨E, hH, Grow.refl _ _ _, hr⟩
def frzCaps : List AV → List AO → List AV × List AO
  | [], H => ([], H)
  | a :: l, H => match frzCap a H with
    | (b, H1) => match frzCaps l H1 with
      | (m, H2) => (b :: m, H2)
theorem frzCaps_sound : ∀ {l : List AV} {vs : List Value} {H : List AO} {w : World} {E : En}, RelH G w E H → vs.length = l.length → (∀ i, i < l.length → RepV w E (l.getD i .un) (vs.getD i undef)) →
    ∃ E', RelH G w E' (frzCaps l H).2 ∧ Grow H E w (frzCaps l H).2 E' w ∧ (frzCaps l H).1.length = l.length ∧ ∀ i, i < l.length → RepV w E' ((frzCaps l H).1.getD i .un) (vs.getD i undef)
  | [], vs, H, w, E, hH, _, _ => ⟨E, hH, Grow.refl _ _ _, rfl, fun i hi => by simp at hi⟩
  | a :: l, [], H, w, E, _, h, _ => by simp at h
  | a :: l, u :: vs, H, w, E, hH, hl, hr => by
    obtain ⟨E1, h1, g1, r1⟩ := frzCap_sound hH (show RepV w E a u from by simpa using hr 0 (by simp))
    obtain ⟨E2, h2, g2, e2, r2⟩ := frzCaps_sound (l := l) (vs := vs) h1 (by simpa using hl) (fun i hi => (by simpa using hr (i + 1) (by simpa using hi) : RepV w E (l.getD i .un) (vs.getD i undef)).mono g1.mono)
    refine ⟨E2, h2, g1.trans g2, by simp only [frzCaps, List.length_cons, e2], fun i hi => ?_⟩
    cases i with
    | zero => exact r1.mono g2.mono
    | succ i => simpa [frzCaps] using r2 i (by simpa using hi)
theorem opv_funcF {f : FuncId} {first caps : Array Operand} (ho : o.op = .makeFunc (.func f) first caps) :
    OpV P G n o ts H (.fn f (first.toList.map (ev ts)) (frzCaps (caps.toList.map (ev ts)) H).1) (frzCaps (caps.toList.map (ev ts)) H).2 := by
  intro E w tmps hH hT hok D
  have hall : ∀ y, y ∈ first ++ caps → opdOk n y = true := fun y hy => by
    simp only [operOk, ho, Op.operands, Bool.and_eq_true] at hok
    exact (Array.all_eq_true'.1 hok.2) y hy
  have hf := repL_map hT (xs := first) (Array.all_eq_true'.2 fun x hx => hall x (by simp [hx])) D
  have hc := repL_map hT (xs := caps) (Array.all_eq_true'.2 fun x hx => hall x (by simp [hx])) D
  have hlen : (caps.map (Act.eval ⟨tmps, D⟩)).toList.length = (caps.toList.map (ev ts)).length := by simp
  obtain ⟨E', h1, g1, e1, r1⟩ := frzCaps_sound (l := caps.toList.map (ev ts)) (vs := (caps.map (Act.eval ⟨tmps, D⟩)).toList) hH hlen (fun i hi => by
    have := hc.2 i hi
    rw [Array.getD_eq_getD_getElem?, ← Array.getElem?_toList] at this
    exact this)
  refine ⟨E', w, .func (.func f) (first.map (Act.eval ⟨tmps, D⟩)) (caps.map (Act.eval ⟨tmps, D⟩)), h1, g1, .fn hf.1 (by rw [hc.1, e1]) (fun i hi => (hf.2 i hi).mono g1.mono) (fun i hi => ?_), .inl ?_⟩
  · have := r1 i (by rw [e1] at hi; exact hi)
    rw [Array.getD_eq_getD_getElem?, ← Array.getElem?_toList]
    exact this
  · simp [execOp, ho, Instr.makeFunc]
end
end Go.Ab
