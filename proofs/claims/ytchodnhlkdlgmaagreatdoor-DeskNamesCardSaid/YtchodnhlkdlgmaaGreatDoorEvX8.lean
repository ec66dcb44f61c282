/-
  Known calls in a table.
-/
import Derived.Test.YtchodnhlkdlgmaaGreatDoorEvX7
set_option linter.unusedVariables false
set_option linter.unusedSimpArgs false
namespace Go.Ab

structure TRow where
  f : FuncId
  args : List AV
  v : AV
def tbL (l : List TRow) : Tb := fun f args => match l with
  | [] => none
  | r :: l => match r with
    | ⟨g, as, v⟩ => match Nat.beq g f with
      | true => match aeqL as args with
        | true => some v
        | false => tbL l f args
      | false => tbL l f args
theorem tbL_ok {P : Program} {G : Gl} : ∀ {l : List TRow}, (∀ r ∈ l, Pur P G r.f r.args r.v) → ∀ f args v, tbL l f args = some v → Pur P G f args v
  | [], _, f, args, v, h => by cases h
  | ⟨g, as, u⟩ :: l, hl, f, args, v, h => by
    have ih := tbL_ok (l := l) (fun r hr => hl r (by simp [hr])) f args v
    simp only [tbL] at h
    split at h
    · rename_i hg
      split at h
      · rename_i ha
        cases h
        have e1 := Nat.eq_of_beq_eq_true hg
        have e2 := aeqL_sound ha
        subst e1; subst e2
        exact hl ⟨g, as, u⟩ (by simp)
      · exact ih h
    · exact ih h

def chk (o : Option AV) (v : AV) : Bool := match o with
  | some u => aeq u v
  | none => false
theorem chk_run {P : Program} {E : XE} (hE : EOk P E) {fuel : Nat} {f : FuncId} {args : List AV} {v : AV} (h : chk (run E fuel f args) v = true) : Pur P E.G f args v := by
  unfold chk at h
  split at h
  · rename_i u hu
    have := aeq_sound h
    subst this
    exact run_sound hE hu
  · cases h
/-! Tables as tries. -/
abbrev TbT := Tr (List (List AV × AV))
def tbR : List (List AV × AV) → List AV → Option AV
  | [], _ => none
  | r :: l, args => match r with
    | (as, v) => match aeqL as args with
      | true => some v
      | false => tbR l args
noncomputable def tbT (t : TbT) : Tb := fun f args => match t.get f with
  | some l => tbR l args
  | none => none
def AllR (P : Program) (G : Gl) : List TRow → Prop
  | [] => True
  | r :: l => Pur P G r.f r.args r.v ∧ AllR P G l
theorem AllR.mem {P : Program} {G : Gl} : ∀ {l : List TRow}, AllR P G l → ∀ r ∈ l, Pur P G r.f r.args r.v
  | _ :: l, h, r, hr => by
    rcases List.mem_cons.1 hr with rfl | h1
    · exact h.1
    · exact AllR.mem h.2 r h1
/-- Each entry of the trie is one of the rows. -/
def chkT (t : TbT) (rows : List TRow) : Bool := t.allI (fun f l => l.all fun r => rows.any fun q => Nat.beq q.f f && aeqL q.args r.1 && aeq q.v r.2) id
theorem tbR_mem : ∀ {l : List (List AV × AV)} {args : List AV} {v : AV}, tbR l args = some v → (args, v) ∈ l
  | (as, u) :: l, args, v, h => by
    simp only [tbR] at h
    split at h
    · rename_i ha
      cases h
      have := aeqL_sound ha
      subst this
      exact List.mem_cons_self
    · exact List.mem_cons_of_mem _ (tbR_mem h)
theorem tbT_ok {P : Program} {G : Gl} {t : TbT} {rows : List TRow} (hc : chkT t rows = true) (hr : AllR P G rows) : ∀ f args v, tbT t f args = some v → Pur P G f args v := by
  intro f args v h
  unfold tbT at h
  split at h
  · rename_i l hl
    have h1 := Tr.get_allI hl hc
    simp only [id, List.all_eq_true] at h1
    have h2 := h1 _ (tbR_mem h)
    simp only [List.any_eq_true, Bool.and_eq_true] at h2
    obtain ⟨q, hq, ⟨ha, hb⟩, hd⟩ := h2
    have e1 := Nat.eq_of_beq_eq_true ha
    have e2 := aeqL_sound hb
    have e3 := aeq_sound hd
    have := hr.mem q hq
    rw [e1, e2, e3] at this
    exact this
  · cases h
end Go.Ab
