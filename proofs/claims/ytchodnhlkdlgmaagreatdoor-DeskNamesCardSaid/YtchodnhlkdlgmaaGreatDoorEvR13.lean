/-
  A region that draws: what only makes a block may be told as late as it is waited for (the check).
-/
import Derived.Test.YtchodnhlkdlgmaaGreatDoorEvR12
set_option linter.unusedVariables false
set_option linter.unusedSimpArgs false
namespace Go.Ab
section
variable {P : Program} {G : Gl} {ops : Array Oper}

def dlO (ex : List Nat) (o : Oper) : Oper := ⟨o.dst, o.op, o.type, o.pos, (o.after.toList ++ ex.map fun e => (Edge.mk e .data)).toArray, o.guard⟩
def dlGo (A : Nat → Bool) (ex : Nat → List Nat) : List Oper → Nat → List Oper
  | [], _ => []
  | o :: l, i => (match A i with | true => dlO (ex i) o | false => o) :: dlGo A ex l (Nat.succ i)
def dl (A : Nat → Bool) (ex : Nat → List Nat) (ops : Array Oper) : Array Oper := (dlGo A ex ops.toList 0).toArray

theorem dlGo_get {A : Nat → Bool} {ex : Nat → List Nat} : ∀ (l : List Oper) (i j : Nat), (dlGo A ex l i)[j]? = (l[j]?).map fun o => match A (i + j) with | true => dlO (ex (i + j)) o | false => o
  | [], i, j => by simp [dlGo]
  | o :: l, i, 0 => by simp [dlGo]
  | o :: l, i, j + 1 => by
    simp only [dlGo, List.getElem?_cons_succ]
    rw [dlGo_get l (Nat.succ i) j, show i.succ + j = i + (j + 1) by omega]
theorem dlGo_length {A : Nat → Bool} {ex : Nat → List Nat} : ∀ (l : List Oper) (i : Nat), (dlGo A ex l i).length = l.length
  | [], i => rfl
  | o :: l, i => by simp [dlGo, dlGo_length l]
theorem dl_get {A : Nat → Bool} {ex : Nat → List Nat} (j : Nat) : (dl A ex ops)[j]? = (ops[j]?).map fun o => match A j with | true => dlO (ex j) o | false => o := by
  unfold dl
  rw [List.getElem?_toArray, dlGo_get]
  simp

def frB (o : Oper) : Bool := match clOf o.op with
  | .alloc => match o.guard with
    | none => match o.dst with
      | some _ => true
      | none => false
    | some _ => false
  | _ => false
theorem frB_inv {o : Oper} (h : frB o = true) : ∃ d, o.dst = some d ∧ o.guard = none ∧ clOf o.op = .alloc := by
  unfold frB at h
  split at h
  · rename_i hc
    split at h
    · rename_i hg
      split at h
      · rename_i d hd; exact ⟨d, hd, hg, hc⟩
      · cases h
    · cases h
  · cases h

def notIn (ops : Array Oper) (o : Oper) (d : Nat) : Bool := (o.looksAt ops).all (fun e => !(Nat.beq e d))
theorem notIn_spec {o : Oper} {d : Nat} (h : notIn ops o d = true) : d ∉ o.looksAt ops := fun hm => by
  unfold notIn at h
  simp only [List.all_eq_true, Array.all_eq_true'] at h
  have := h d hm
  simp at this
def dSep (ops : Array Oper) (oa o' : Oper) : Bool := match oa.dst with
  | some d => noD ops o' d
  | none => true
def dDep (ops : Array Oper) (i : Nat) (o oa : Oper) : Bool := oa.after.any (fun e => Region.binds .any e && Nat.beq e.on i) || (match o.dst with | some d => notIn ops oa d | none => true)
def dA (ops : Array Oper) (A : Nat → Bool) (ex : List Nat) (i : Nat) (o : Oper) : Bool :=
  frB o && o.after.all (fun e => !Region.binds .any e || !A e.on) && ex.all (fun e => Nat.blt e ops.size && (!A e || Nat.blt e i)) &&
    (List.range ops.size).all fun a => Nat.beq a i || !A a || (match ops[a]? with | some oa => dSep ops o oa | none => true)
def dH (ops : Array Oper) (A : Nat → Bool) (ex : Nat → List Nat) (i : Nat) (o : Oper) : Bool :=
  !isSelect o.op && Nat.blt ((masks [] ops.toList).getD i 0) (2 ^ i) && (List.range ops.size).all fun a => !A a || (match ops[a]? with
    | some oa => dDep ops i o oa && (match wt ops i a with
      | true => oa.after.all (fun e => !Region.binds .any e || wt ops i e.on) && (ex a).all (fun e => wt ops i e)
      | false => dSep ops oa o)
    | none => true)
def dOne (ops : Array Oper) (A : Nat → Bool) (ex : Nat → List Nat) (i : Nat) (o : Oper) : Bool :=
  o.after.all (fun e => !Region.binds .any e || (Nat.blt e.on i && (!A e.on || wt ops i e.on))) && (match A i with
    | true => dA ops A (ex i) i o
    | false => dH ops A ex i o)
def delayB (ops : Array Oper) (A : Nat → Bool) (ex : Nat → List Nat) : Bool := (List.range ops.size).all fun i => match ops[i]? with
  | some o => dOne ops A ex i o
  | none => true

theorem delayB_ok {A : Nat → Bool} {ex : Nat → List Nat} (hA : ∀ a, A a = true → a < ops.size) (h : delayB ops A ex = true) : DelayOk ops (dl A ex ops) A := by
  have key : ∀ i o, ops[i]? = some o → dOne ops A ex i o = true := fun i o ho => by
    have := (List.all_eq_true.1 h) i (List.mem_range.2 (Array.getElem?_eq_some_iff.1 ho).1)
    rwa [ho] at this
  have ked : ∀ i o, ops[i]? = some o → ∀ e ∈ o.after, Region.binds .any e = true → e.on < i ∧ (A e.on = true → wt ops i e.on = true) := fun i o ho e he hb => by
    have := key i o ho
    unfold dOne at this
    rw [Bool.and_eq_true] at this
    have := (Array.all_eq_true'.1 this.1) e he
    simp only [hb, Bool.not_true, Bool.false_or, Bool.and_eq_true, Bool.or_eq_true, Bool.not_eq_true'] at this
    refine ⟨by simpa using this.1, fun hA => ?_⟩
    rcases this.2 with h | h
    · rw [hA] at h; cases h
    · exact h
  have kA : ∀ a, A a = true → ∃ o, ops[a]? = some o ∧ dA ops A (ex a) a o = true := fun a ha => by
    have hl := hA a ha
    refine ⟨ops[a], by simp [hl], ?_⟩
    have := key a ops[a] (by simp [hl])
    unfold dOne at this
    rw [ha, Bool.and_eq_true] at this
    exact this.2
  have kH : ∀ i o, A i = false → ops[i]? = some o → dH ops A ex i o = true := fun i o hi ho => by
    have := key i o ho
    unfold dOne at this
    rw [hi, Bool.and_eq_true] at this
    exact this.2
  have kH2 : ∀ i o a oa, A i = false → ops[i]? = some o → A a = true → ops[a]? = some oa → dDep ops i o oa = true ∧ (wt ops i a = true → (∀ e ∈ oa.after, Region.binds .any e = true → wt ops i e.on = true) ∧ ∀ e ∈ ex a, wt ops i e = true) ∧ (wt ops i a = false → dSep ops oa o = true) := fun i o a oa hi ho ha hoa => by
    have := kH i o hi ho
    unfold dH at this
    simp only [Bool.and_eq_true, List.all_eq_true, List.mem_range] at this
    have := this.2 a (hA a ha)
    simp only [ha, hoa, Bool.not_true, Bool.false_or, Bool.and_eq_true] at this
    refine ⟨this.1, fun hw => ?_, fun hw => ?_⟩
    · have h2 := this.2
      rw [hw] at h2
      simp only [Bool.and_eq_true, List.all_eq_true, Array.all_eq_true'] at h2
      exact ⟨fun e he hb => by simpa [hb] using h2.1 e he, h2.2⟩
    · have h2 := this.2
      rw [hw] at h2
      exact h2
  have afters : ∀ a o (e : Edge), ops[a]? = some o → e ∈ (dlO (ex a) o).after → e ∈ o.after ∨ e.on ∈ ex a := fun a o e ho he => by
    simp only [dlO, List.mem_toArray, List.mem_append, List.mem_map] at he
    rcases he with he | ⟨x, hx, rfl⟩
    · exact .inl (by simpa using he)
    · exact .inr hx
  have sepOf : ∀ oa o' d, dSep ops oa o' = true → oa.dst = some d → d ∉ o'.looksAt ops ∧ o'.dst ≠ some d := fun oa o' d hs hd => by
    unfold dSep at hs
    rw [hd] at hs
    exact noD_spec hs
  refine ⟨by unfold dl; rw [List.size_toArray, dlGo_length]; simp, fun i hi => ?_, fun a ha => ?_, ked, fun i a o' hi ha hw ho' e he hb => ?_, fun i e hi hs hw => ?_, fun i o hi ho => ?_, fun i o hi ho a ha oa hoa => ?_, fun a a' ha ha' hne o o' d ho ho' hd => ?_⟩
  · rw [dl_get, hi]; simp
  · obtain ⟨o, ho, hd⟩ := kA a ha
    unfold dA at hd
    simp only [Bool.and_eq_true] at hd
    obtain ⟨⟨⟨h1, h2⟩, h3⟩, h4⟩ := hd
    obtain ⟨d, q1, q2, q3⟩ := frB_inv h1
    refine ⟨o, dlO (ex a) o, d, ho, by rw [dl_get, ho, ha]; rfl, rfl, rfl, q2, q1, q2, q3, fun e he hb => ?_, fun e he hb => ?_⟩
    · have := (Array.all_eq_true'.1 h2) e he
      simpa [hb] using this
    · rcases afters a o e ho he with he | he
      · have p1 := ked a o ho e he hb
        have p2 := (Array.all_eq_true'.1 h2) e he
        refine ⟨by have := hA a ha; omega, fun hAe => ?_⟩
        rw [hAe, hb] at p2; cases p2
      · have := (List.all_eq_true.1 h3) e.on he
        simp only [Bool.and_eq_true, Bool.or_eq_true, Bool.not_eq_true'] at this
        refine ⟨by simpa using this.1, fun hAe => ?_⟩
        rcases this.2 with h | h
        · rw [hAe] at h; cases h
        · simpa using h
  · obtain ⟨oa, hoa, _⟩ := kA a ha
    obtain ⟨o, ho⟩ : ∃ o, ops[i]? = some o := by
      by_cases hs : i < ops.size
      · exact ⟨ops[i], by simp [hs]⟩
      · exfalso
        have : (masks [] ops.toList).getD i 0 = 0 := by
          have := masks_length ops.toList []
          simp [List.getD, List.getElem?_eq_none (show (masks [] ops.toList).length ≤ i by rw [this]; simp; omega)]
        unfold wt at hw
        rw [this] at hw; simp at hw
    rw [dl_get, hoa, ha] at ho'
    simp only [Option.map_some, Option.some.injEq] at ho'
    subst ho'
    obtain ⟨_, h2, _⟩ := kH2 i o a oa hi ho ha hoa
    obtain ⟨h3, h4⟩ := h2 hw
    rcases afters a oa e hoa he with he | he
    · exact h3 e he hb
    · exact h4 _ he
  · have := kH i ops[i] hi (by simp [hs])
    unfold dH at this
    simp only [Bool.and_eq_true] at this
    have h2 := this.1.2
    rw [show Nat.blt ((masks [] ops.toList).getD i 0) (2 ^ i) = decide ((masks [] ops.toList).getD i 0 < 2 ^ i) by
      rw [Bool.eq_iff_iff]; simp, decide_eq_true_eq] at h2
    by_cases he : e < i
    · exact he
    · exfalso
      have := Nat.testBit_lt_two_pow (Nat.lt_of_lt_of_le h2 (Nat.pow_le_pow_right (by omega) (Nat.le_of_not_lt he)))
      unfold wt at hw
      rw [this] at hw; cases hw
  · have := kH i o hi ho
    unfold dH at this
    simp only [Bool.and_eq_true, Bool.not_eq_true'] at this
    refine ⟨this.1.1, fun a ha oa d hoa hd => ?_⟩
    obtain ⟨_, _, h3⟩ := kH2 i o a oa hi ho ha hoa
    cases hw : wt ops i a with
    | true => exact .inl rfl
    | false => exact .inr (sepOf oa o d (h3 hw) hd)
  · obtain ⟨h1, _⟩ := kH2 i o a oa hi ho ha hoa
    unfold dDep at h1
    rw [Bool.or_eq_true] at h1
    rcases h1 with h1 | h1
    · simp only [Array.any_eq_true', Bool.and_eq_true] at h1
      obtain ⟨e, he, hb, hn⟩ := h1
      exact .inl ⟨e, he, hb, by simpa using hn⟩
    · refine .inr fun d hd => ?_
      rw [hd] at h1
      exact notIn_spec h1
  · obtain ⟨o1, ho1, h1⟩ := kA a ha
    rw [ho] at ho1; cases ho1
    unfold dA at h1
    simp only [Bool.and_eq_true, List.all_eq_true, List.mem_range, Bool.or_eq_true, Bool.not_eq_true'] at h1
    have := h1.2 a' (hA a' ha')
    rw [ho'] at this
    rcases this with (h | h) | h
    · simp at h; exact absurd h.symm hne
    · rw [ha'] at h; cases h
    · obtain ⟨p1, p2⟩ := sepOf o o' d h hd
      exact ⟨p2, p1⟩

theorem FW.drawD (hm : P.follows .mixedOrders = true) {imp : Nat → Bool} {A : Nat → Bool} {ex : Nat → List Nat} (hA : ∀ a, A a = true → a < ops.size) (hD : delayB ops A ex = true) {l : List (Nat × Bool)} (hB : ordGB (dl A ex ops) imp l = true) {rd : Option Nat} {n id : Nat} {k : List Item} {Q : Lv → (Nat → AV) → List AO → Prop} {ts : Nat → AV} {H : List AO}
    (h : runG P G (dl A ex ops) (wt (dl A ex ops)) imp (fun _ ts H => FW P G rd n k ts H Q) l (fun _ _ => True) ts H) : FW P G rd n (.code (.region id ops true) :: k) ts H Q := by
  have hS := delayB_ok hA hD
  simp only [ordGB, Bool.and_eq_true, beq_iff_eq] at hB
  refine FW.delay hm hS (imp := imp) ?_
  rw [← hS.sz, ← hB.1]
  refine anyG_any _ (ordG_sound l _ _ ts H (fun j o ho hl => ?_) (by rw [hB.1]; exact hB.2) h)
  exfalso
  rcases Nat.lt_or_ge j l.length with h1 | h1 <;> simp [Array.getD, h1] at hl
end
end Go.Ab
