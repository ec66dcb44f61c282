/-
  A quick check that the text's order serves a region that draws its order.
-/
import Derived.Test.YtchodnhlkdlgmaaGreatDoorEvR2
set_option linter.unusedVariables false
set_option linter.unusedSimpArgs false
namespace Go.Ab
section
variable {ops : Array Oper}

def bitAt (m i : Nat) : Bool := match Nat.land 1 (Nat.shiftRight m i) with
  | 0 => false
  | _ + 1 => true
theorem bitAt_eq (m i : Nat) : bitAt m i = m.testBit i := by
  unfold bitAt Nat.testBit
  have e : Nat.land 1 (Nat.shiftRight m i) = 1 &&& (m >>> i) := rfl
  rw [e]
  split
  · rename_i h; rw [h]; rfl
  · rename_i k h; rw [h]; rfl

def edgesB (i : Nat) : List Edge → Bool
  | [] => true
  | e :: l => match Region.binds .any e with
    | true => match Nat.blt e.on i with
      | true => edgesB i l
      | false => false
    | false => edgesB i l
theorem blt_iff' (a b : Nat) : Nat.blt a b = true ↔ a < b := by rw [Nat.blt_eq]
theorem edgesB_sound {i : Nat} : ∀ {l : List Edge}, edgesB i l = true → ∀ e ∈ l, Region.binds .any e = true → e.on < i
  | [], _, e, he, _ => by cases he
  | e0 :: l, h, e, he, hb => by
    simp only [edgesB] at h
    rcases List.mem_cons.1 he with rfl | he
    · rw [hb] at h
      simp only at h
      split at h
      · rename_i hlt; exact (blt_iff' _ _).1 hlt
      · cases h
    · split at h
      · split at h
        · exact edgesB_sound h e he hb
        · cases h
      · exact edgesB_sound h e he hb

def fastRow (ops : Array Oper) (i : Nat) (o : Oper) : List Oper → List Nat → Bool
  | p :: l, m :: ms => match bitAt m i with
    | true => fastRow ops i o l ms
    | false => match compat (clOf o.op) .scal false && o.apart ops p && compat (clOf o.op) (clOf p.op) false with
      | true => fastRow ops i o l ms
      | false => false
  | [], _ => true
  | _ :: _, [] => false
def fastL (ops : Array Oper) : Nat → List Oper → List Nat → Bool
  | i, o :: l, _ :: ms => match edgesB i o.after.toList with
    | true => match fastRow ops i o l ms with
      | true => fastL ops (Nat.succ i) l ms
      | false => false
    | false => false
  | _, [], _ => true
  | _, _ :: _, [] => false
def fastB (ops : Array Oper) : Bool := fastL ops 0 ops.toList (masks [] ops.toList)

theorem fastRow_sound {i : Nat} {o : Oper} : ∀ {l : List Oper} {ms : List Nat}, fastRow ops i o l ms = true → ∀ k, (hk : k < l.length) → ((ms.getD k 0).testBit i = true ∨ (compat (clOf o.op) .scal false = true ∧ o.apart ops l[k] = true ∧ compat (clOf o.op) (clOf (l[k]).op) false = true))
  | [], ms, h, k, hk => by simp at hk
  | p :: l, [], h, k, hk => by cases h
  | p :: l, m :: ms, h, k, hk => by
    simp only [fastRow, bitAt_eq] at h
    cases k with
    | zero =>
      split at h
      · rename_i hb; exact .inl hb
      · split at h
        · rename_i hc
          simp only [Bool.and_eq_true] at hc
          exact .inr ⟨hc.1.1, hc.1.2, hc.2⟩
        · cases h
    | succ k =>
      have ih := fun h' => fastRow_sound (i := i) (o := o) (l := l) (ms := ms) h' k (by simpa using hk)
      split at h
      · simpa using ih h
      · split at h
        · simpa using ih h
        · cases h

theorem masks_length (l : List Oper) : ∀ acc, (masks acc l).length = acc.length + l.length := by
  induction l with
  | nil => intro acc; rfl
  | cons o l ih => intro acc; simp only [masks, ih, List.length_append, List.length_cons, List.length_nil]; omega

def lst (n i : Nat) : Array Bool := ((List.range n).map fun j => decide (j < i)).toArray
theorem lst_size (n i : Nat) : (lst n i).size = n := by simp [lst]
theorem lst_get {n i j : Nat} (hj : j < n) : (lst n i)[j]? = some (decide (j < i)) := by simp [lst, hj]
theorem lst_getD {n i j : Nat} (hj : j < n) (d : Bool) : (lst n i).getD j d = decide (j < i) := by
  simp only [Array.getD_eq_getD_getElem?, lst_get hj, Option.getD_some]
theorem lst_set {n i : Nat} (hi : i < n) : (lst n i).setIfInBounds i true = lst n (i + 1) := by
  apply Array.ext_getElem?
  intro j
  by_cases hj : j < n
  · by_cases e : i = j
    · subst e
      rw [Array.getElem?_setIfInBounds_self_of_lt (by rw [lst_size]; exact hi), lst_get hi]; simp
    · rw [Array.getElem?_setIfInBounds_ne e, lst_get hj, lst_get hj]
      congr 1
      apply decide_eq_decide.2
      omega
  · rw [Array.getElem?_eq_none (by simp [lst_size]; omega), Array.getElem?_eq_none (by rw [lst_size]; omega)]
theorem lst_zero (n : Nat) : Array.replicate n false = lst n 0 := by
  apply Array.ext_getElem?
  intro j
  by_cases hj : j < n
  · rw [lst_get hj]; simp [hj]
  · rw [Array.getElem?_eq_none (by simp; omega), Array.getElem?_eq_none (by rw [lst_size]; omega)]

theorem nodup_single {l : List Nat} (hn : l.Nodup) {i : Nat} (hi : i ∈ l) (h : ∀ j ∈ l, j = i) : l = [i] := by
  cases l with
  | nil => cases hi
  | cons a l =>
    have ha := h a (by simp)
    subst ha
    cases l with
    | nil => rfl
    | cons b l =>
      have hb := h b (by simp)
      subst hb
      simp at hn

theorem fastL_sound : ∀ (l : List Oper) (i : Nat) (ms : List Nat), l = ops.toList.drop i → ms = (masks [] ops.toList).drop i → fastL ops i l ms = true → Closed ops (lst ops.size i) → i ≤ ops.size →
    ordOk ops (fun _ => false) (masks [] ops.toList) (List.range' i l.length) (lst ops.size i) = true
  | [], i, ms, hl, hms, h, hcl, hle => by
    show (Region.ready .any ops (lst ops.size i)).isEmpty = true
    have hi : ops.size ≤ i := by
      have := congrArg List.length hl
      simp at this; omega
    cases hr : Region.ready .any ops (lst ops.size i) with
    | nil => rfl
    | cons j t =>
      have hj : j ∈ Region.ready .any ops (lst ops.size i) := by rw [hr]; simp
      obtain ⟨hun, o, ho, _⟩ := mem_ready.1 hj
      have hlt := (Array.getElem?_eq_some_iff.1 ho).1
      rw [lst_getD hlt] at hun
      simp at hun; omega
  | o :: l, i, [], hl, hms, h, hcl, hle => by cases h
  | o :: l, i, m :: ms, hl, hms, h, hcl, hle => by
    have hi : i < ops.size := by
      rcases Nat.lt_or_ge i ops.size with h1 | h1
      · exact h1
      · rw [List.drop_eq_nil_of_le (by simpa using h1)] at hl; cases hl
    rw [List.drop_eq_getElem_cons (by simpa using hi)] at hl
    injection hl with ho hl'
    have ho' : ops[i]? = some o := by rw [ho]; simp [hi]
    have hml : (masks [] ops.toList).length = ops.size := by rw [masks_length]; simp
    rw [List.drop_eq_getElem_cons (by rw [hml]; exact hi)] at hms
    injection hms with hm hms'
    simp only [fastL] at h
    split at h
    · rename_i he
      split at h
      · rename_i hrow
        have hready : i ∈ Region.ready .any ops (lst ops.size i) := mem_ready.2 ⟨by rw [lst_getD hi]; simp, o, ho', fun e hem hb => by
          have := edgesB_sound he e (by simpa using hem) hb
          rw [lst_getD (by omega)]; simpa using this⟩
        have hcl' := hcl.set hready
        rw [lst_set hi] at hcl'
        have ih := fastL_sound l (i + 1) ms hl' hms' h hcl' (by omega)
        have hrow' : ∀ j, i < j → j < ops.size → ∀ oj, ops[j]? = some oj → (((masks [] ops.toList).getD j 0).testBit i = true ∨ (compat (clOf o.op) .scal false = true ∧ o.apart ops oj = true ∧ compat (clOf o.op) (clOf oj.op) false = true)) := by
          intro j hij hj oj hoj
          have hk : j - (i + 1) < l.length := by rw [hl']; simp; omega
          have := fastRow_sound hrow (j - (i + 1)) hk
          have e1 : ms.getD (j - (i + 1)) 0 = (masks [] ops.toList).getD j 0 := by
            rw [hms']
            simp only [List.getD, List.getElem?_drop]
            congr 2; omega
          have e2 : l[j - (i + 1)] = oj := by
            have : l[j - (i + 1)]? = some oj := by
              rw [hl', List.getElem?_drop, show i + 1 + (j - (i + 1)) = j by omega]
              simpa using hoj
            rw [List.getElem?_eq_getElem hk] at this
            exact Option.some.inj this
          rw [e1, e2] at this
          exact this
        show ((Region.ready .any ops (lst ops.size i)).contains i && _ && ordOk ops (fun _ => false) (masks [] ops.toList) (List.range' (i + 1) l.length) ((lst ops.size i).setIfInBounds i true)) = true
        rw [lst_set hi, ih, Bool.and_true, Bool.and_eq_true]
        refine ⟨by simpa using hready, ?_⟩
        rw [Bool.or_eq_true]
        by_cases hall : ∀ j, i < j → j < ops.size → ((masks [] ops.toList).getD j 0).testBit i = true
        · left
          rw [beq_iff_eq]
          refine nodup_single ?_ hready (fun j hj => ?_)
          · exact List.Pairwise.filter _ List.nodup_range
          · obtain ⟨hun, oj, hoj, _⟩ := mem_ready.1 hj
            have hlt := (Array.getElem?_eq_some_iff.1 hoj).1
            rw [lst_getD hlt] at hun
            rcases Nat.lt_trichotomy i j with q | q | q
            · have h1 := hall j q hlt
              have h2 := masks_wait hcl hj (i := i) (by rw [lst_getD hi]; simp)
              rw [h1] at h2; cases h2
            · exact q.symm
            · simp at hun; omega
        · right
          have hex : ∃ j, i < j ∧ j < ops.size ∧ ¬ ((masks [] ops.toList).getD j 0).testBit i = true := by
            false_or_by_contra
            rename_i hn
            exact hall fun j h1 h2 => by
              false_or_by_contra
              rename_i h3
              exact hn ⟨j, h1, h2, h3⟩
          obtain ⟨j0, q1, q2, q3⟩ := hex
          have hc0 : compat (clOf o.op) .scal false = true := by
            rcases hrow' j0 q1 q2 _ (Array.getElem?_eq_getElem q2) with h1 | h1
            · exact absurd h1 q3
            · exact h1.1
          rw [ho']
          simp only [Bool.and_false, Bool.not_false, Bool.true_and, hc0, List.all_eq_true, Bool.or_eq_true]
          intro j hj
          have hj : j < ops.size := by simpa using hj
          rw [Array.getElem?_eq_getElem hj]
          simp only [Bool.and_eq_true]
          rcases Nat.lt_trichotomy i j with q | q | q
          · rcases hrow' j q hj _ (Array.getElem?_eq_getElem hj) with h1 | h1
            · exact .inl (.inr h1)
            · exact .inr h1.2
          · exact .inl (.inl (.inl (by simpa using q.symm)))
          · exact .inl (.inl (.inr (by rw [lst_getD hj]; simpa using q)))
      · cases h
    · cases h

theorem fastB_sound (h : fastB ops = true) : ordB ops (fun _ => false) (List.range ops.size) = true := by
  unfold ordB
  rw [List.length_range, beq_self_eq_true, Bool.true_and, lst_zero, List.range_eq_range']
  have := fastL_sound (ops := ops) ops.toList 0 (masks [] ops.toList) (by simp) (by simp) h (fun j o ho hl => by
    exfalso
    have hlt := (Array.getElem?_eq_some_iff.1 ho).1
    rw [lst_getD hlt] at hl
    simp at hl) (by omega)
  simpa using this
end
end Go.Ab
