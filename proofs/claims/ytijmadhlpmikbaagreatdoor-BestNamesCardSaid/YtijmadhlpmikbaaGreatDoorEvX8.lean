/-
  Known calls in a table.
-/
import Derived.Test.YtijmadhlpmikbaaGreatDoorEvX7
set_option linter.unusedVariables false
set_option linter.unusedSimpArgs false
namespace Go.Ab

structure TRow where
  f : FuncId
  args : List AV
  v : AV
def tbL (l : List TRow) : Tb := fun f args => match l with
  | [] => none
  | r :: l => match r with
    | ⟨g, as, v⟩ => match Nat.beq g f with
      | true => match aeqL as args with
        | true => some v
        | false => tbL l f args
      | false => tbL l f args
theorem tbL_ok {P : Program} {G : Gl} : ∀ {l : List TRow}, (∀ r ∈ l, Pur P G r.f r.args r.v) → ∀ f args v, tbL l f args = some v → Pur P G f args v
  | [], _, f, args, v, h => by cases h
  | ⟨g, as, u⟩ :: l, hl, f, args, v, h => by
    have ih := tbL_ok (l := l) (fun r hr => hl r (by simp [hr])) f args v
    simp only [tbL] at h
    split at h
    · rename_i hg
      split at h
      · rename_i ha
        cases h
        have e1 := Nat.eq_of_beq_eq_true hg
        have e2 := aeqL_sound ha
        subst e1; subst e2
        exact hl ⟨g, as, u⟩ (by simp)
      · exact ih h
    · exact ih h

def chk (o : Option AV) (v : AV) : Bool := match o with
  | some u => aeq u v
  | none => false
theorem chk_run {P : Program} {E : XE} (hE : EOk P E) {fuel : Nat} {f : FuncId} {args : List AV} {v : AV} (h : chk (run E fuel f args) v = true) : Pur P E.G f args v := by
  unfold chk at h
  split at h
  · rename_i u hu
    have := aeq_sound h
    subst this
    exact run_sound hE hu
  · cases h
end Go.Ab
