/-
  Tables checked whole: of types, of functions.
-/
import Derived.Test.YtchodnhlkdlgmaaGreatDoorEvX5
set_option linter.unusedVariables false
set_option linter.unusedSimpArgs false
namespace Go.Ab

def Tr.mapI {α : Type} (f : Nat → α) : Tr α → (Nat → Nat) → Tr α
  | .lf, _ => .lf
  | .nd v l r, ix => .nd (match v with | some _ => some (f (ix 0)) | none => none) (l.mapI f fun i => ix (2 * i + 1)) (r.mapI f fun i => ix (2 * i + 2))
  | .ov t i v, ix => .ov (t.mapI f ix) i (f (ix i))
def Tr.allI {α : Type} (p : Nat → α → Bool) : Tr α → (Nat → Nat) → Bool
  | .lf, _ => true
  | .nd v l r, ix => (match v with | some a => p (ix 0) a | none => true) && (l.allI p fun i => ix (2 * i + 1)) && (r.allI p fun i => ix (2 * i + 2))
  | .ov _ _ _, _ => false

theorem Tr.get_mapI {α : Type} {f : Nat → α} : ∀ {t : Tr α} {ix : Nat → Nat} {i : Nat} {a : α}, (t.mapI f ix).get i = some a → t.allI (fun _ _ => true) ix = true → a = f (ix i)
  | .lf, ix, i, a, h, _ => by rw [Tr.mapI, Tr.get_lf] at h; cases h
  | .nd v l r, ix, i, a, h, ha => by
    simp only [Tr.allI, Bool.and_eq_true] at ha
    cases i with
    | zero =>
      simp only [Tr.mapI] at h; first | rw [Tr.get_nd0] at h | rw [Tr.get_ndS] at h
      cases v <;> simp at h
      exact h.symm
    | succ k =>
      simp only [Tr.mapI] at h; first | rw [Tr.get_nd0] at h | rw [Tr.get_ndS] at h
      split at h
      · rename_i hk
        rw [Tr.get_mapI h ha.1.2]
        have h1 : k % 2 = 0 := hk
        have h2 : 2 * Nat.div k 2 + 1 = k + 1 := by show 2 * (k / 2) + 1 = k + 1; omega
        rw [h2]
      · rename_i m hk
        rw [Tr.get_mapI h ha.2]
        have h1 : k % 2 = m + 1 := hk
        have h2 : 2 * Nat.div k 2 + 2 = k + 1 := by show 2 * (k / 2) + 2 = k + 1; omega
        rw [h2]
  | .ov t j v, ix, i, a, h, ha => by cases ha

theorem Tr.get_allI {α : Type} {p : Nat → α → Bool} : ∀ {t : Tr α} {ix : Nat → Nat} {i : Nat} {a : α}, t.get i = some a → t.allI p ix = true → p (ix i) a = true
  | .lf, ix, i, a, h, _ => by rw [Tr.get_lf] at h; cases h
  | .nd v l r, ix, i, a, h, ha => by
    simp only [Tr.allI, Bool.and_eq_true] at ha
    cases i with
    | zero =>
      first | rw [Tr.get_nd0] at h | rw [Tr.get_ndS] at h
      have := ha.1.1
      rw [h] at this
      exact this
    | succ k =>
      first | rw [Tr.get_nd0] at h | rw [Tr.get_ndS] at h
      split at h
      · rename_i hk
        have h3 := Tr.get_allI h ha.1.2
        have h1 : k % 2 = 0 := hk
        have h2 : 2 * Nat.div k 2 + 1 = k + 1 := by show 2 * (k / 2) + 1 = k + 1; omega
        rwa [h2] at h3
      · rename_i m hk
        have h3 := Tr.get_allI h ha.2
        have h1 : k % 2 = m + 1 := hk
        have h2 : 2 * Nat.div k 2 + 2 = k + 1 := by show 2 * (k / 2) + 2 = k + 1; omega
        rwa [h2] at h3
  | .ov t j v, ix, i, a, h, ha => by cases ha

def mkTI (P : Program) (t : TypeId) : TI :=
  { und := (P.underlying t).getD .invalid, agg := (aggT P t).getD false, sz := (szT P t).getD 0, byt := (bytesT P t).getD 0, zc := zeroCells P t, ze := zeroEl P t, eqg := P.eqGuardType P.depth t, held := P.stoodInHeld t }
def someTI (P : Program) (t : TypeId) : Bool := (P.underlying t).isSome && (aggT P t).isSome && (szT P t).isSome && (bytesT P t).isSome

theorem Tr.allI_mono {α : Type} {p q : Nat → α → Bool} (h : ∀ i a, p i a = true → q i a = true) : ∀ {t : Tr α} {ix : Nat → Nat}, t.allI p ix = true → t.allI q ix = true
  | .lf, ix, _ => rfl
  | .nd v l r, ix, ha => by
    simp only [Tr.allI, Bool.and_eq_true] at ha ⊢
    refine ⟨⟨?_, Tr.allI_mono h ha.1.2⟩, Tr.allI_mono h ha.2⟩
    cases v with
    | none => rfl
    | some a => exact h _ _ ha.1.1
  | .ov t j v, ix, ha => by cases ha

theorem TEok.of {P : Program} {te : Tr TI} (h : te.mapI (mkTI P) id = te) (h2 : te.allI (fun t _ => someTI P t) id = true) : TEok P te := by
  intro t i hi
  have h3 := Tr.get_allI hi h2
  have h4 : te.allI (fun _ _ => true) id = true := Tr.allI_mono (fun _ _ _ => rfl) h2
  rw [← h] at hi
  have h5 := Tr.get_mapI hi h4
  simp only [id] at h3 h5
  subst h5
  simp only [someTI, Bool.and_eq_true] at h3
  obtain ⟨⟨⟨a, b⟩, c⟩, d⟩ := h3
  obtain ⟨x1, e1⟩ := Option.isSome_iff_exists.1 a
  obtain ⟨x2, e2⟩ := Option.isSome_iff_exists.1 b
  obtain ⟨x3, e3⟩ := Option.isSome_iff_exists.1 c
  obtain ⟨x4, e4⟩ := Option.isSome_iff_exists.1 d
  simp [mkTI, e1, e2, e3, e4]

def feOk (fn : Func) : Bool := (match fn.body with | some c => codeOk fn.ntmps c | none => false) && resOk fn.ntmps fn.results && !(fn.name == "runtime.NumGoroutine")
def FTok (P : Program) (ft : Tr Func) : Prop := ∀ f fn, ft.get f = some fn → P.funcs[f]? = some fn ∧ feOk fn = true
theorem FTok.of {P : Program} {ft : Tr Func} (h : ft.mapI (fun i => (P.funcs[i]?).getD default) id = ft) (h2 : ft.allI (fun i fn => (P.funcs[i]?).isSome && feOk fn) id = true) : FTok P ft := by
  intro f fn hi
  have h3 := Tr.get_allI hi h2
  have h4 : ft.allI (fun _ _ => true) id = true := Tr.allI_mono (fun _ _ _ => rfl) h2
  rw [← h] at hi
  have h5 := Tr.get_mapI hi h4
  simp only [id, Bool.and_eq_true] at h3 h5
  obtain ⟨x1, e1⟩ := Option.isSome_iff_exists.1 h3.1
  rw [e1] at h5
  simp only [Option.getD_some] at h5
  subst h5
  exact ⟨e1, h3.2⟩
end Go.Ab
