/-
  Reads, stores, addresses, parts as the kernel carries them out; all operations in one.
-/
import Derived.Test.YtchodnhlkdlgmaaGreatDoorEvX2
set_option linter.unusedVariables false
set_option linter.unusedSimpArgs false
namespace Go.Ab

section
variable {β : Type} {P : Program} {te : Tr TI} {G : Gl}

/-! ### Reads -/

noncomputable def xrd1p (id off : Nat) (G : Gl) (H : Hp) (k : AV → Option β) : Option β := match H.get id with
    | some (.cells cs) => match lget cs off with
      | some x => fcT x k
      | none => none
    | _ => none
noncomputable def xrd1e (id i off : Nat) (G : Gl) (H : Hp) (k : AV → Option β) : Option β := match H.get id with
    | some (.arr sz es) => match Nat.blt off sz with
      | true => match lget es i with
        | some e => xcells e fun cs => match lget cs off with
          | some x => fcT x k
          | none => none
        | none => none
      | false => none
    | _ => none
noncomputable def xrd1i (cs : List AV) (off : Nat) (G : Gl) (H : Hp) (k : AV → Option β) : Option β := match lget cs off with
    | some x => fcT x k
    | none => none
noncomputable def xrd1g (g off : Nat) (G : Gl) (H : Hp) (k : AV → Option β) : Option β := match G g with
    | some cs => match lget cs off with
      | some x => fcT x k
      | none => none
    | none => none
noncomputable def xrd1A (a : AV) : Gl → Hp → (AV → Option β) → Option β := AV.casesOn (motive_1 := fun _ => Gl → Hp → (AV → Option β) → Option β) a
  (fun _ _ _ _ => none)
  (fun _ _ _ _ => none)
  (fun _ _ _ _ => none)
  (xrd1p)
  (xrd1e)
  (fun _ _ _ _ _ _ _ => none)
  (fun _ _ _ => none)
  (fun _ _ _ _ => none)
  (xrd1i)
  (fun _ _ _ _ _ _ => none)
  (fun _ _ _ _ => none)
  (fun _ _ _ _ _ => none)
  (fun _ _ _ _ => none)
  (xrd1g)
  (fun _ _ _ _ _ _ _ _ => none)
  (fun _ _ _ => none)
noncomputable def xrd1 (G : Gl) (H : Hp) (a : AV) (k : AV → Option β) : Option β := xrd1A a G H k

theorem getD_some {l : List AV} {i : Nat} {e : AV} (h : l[i]? = some e) : l.getD i .un = e := by simp [List.getD, h]
theorem lt_some {α : Type} {l : List α} {i : Nat} {e : α} (h : l[i]? = some e) : i < l.length := (List.getElem?_eq_some_iff.1 h).1
theorem take1 {α : Type} {l : List α} {i : Nat} {x : α} (h : l[i]? = some x) : i + 1 ≤ l.length ∧ (l.drop i).take 1 = [x] := by
  have hi := (List.getElem?_eq_some_iff.1 h)
  obtain ⟨hi, rfl⟩ := hi
  refine ⟨hi, ?_⟩
  rw [List.drop_eq_getElem_cons hi]; rfl

theorem xrd1_sound {H : Hp} {a : AV} {k : AV → Option β} {r : β} (h : xrd1 G H a k = some r) : ∃ x, rdCells G H.abs a 1 = some [x] ∧ k x = some r := by
  unfold xrd1 at h
  cases a <;> simp only [xrd1A] at h
  all_goals first | (cases h; done) | skip
  all_goals simp only [xrd1p, xrd1e, xrd1i, xrd1g, fcT_eq, xcells_eq, lget_eq, Hp.get_eq] at h
  · split at h
    · rename_i cs hcs
      split at h
      · rename_i x hx
        have := take1 hx
        exact ⟨x, by simp only [rdCells, hcs]; rw [if_pos this.1, this.2], h⟩
      · cases h
    · cases h
  · split at h
    · rename_i sz es hcs
      split at h
      · rename_i hsz
        split at h
        · rename_i e he
          split at h
          · rename_i x hx
            have := take1 hx
            refine ⟨x, ?_, h⟩
            simp only [rdCells, hcs]
            have h2 := (blt_iff _ _).1 hsz
            rw [if_pos ⟨lt_some he, h2⟩, getD_some he, this.2]
          · cases h
        · cases h
      · cases h
    · cases h
  · split at h
    · rename_i x hx
      have := take1 hx
      exact ⟨x, by simp only [rdCells]; rw [if_pos this.1, this.2], h⟩
    · cases h
  · split at h
    · rename_i cs hcs
      split at h
      · rename_i x hx
        have := take1 hx
        refine ⟨x, ?_, h⟩
        simp only [rdCells, hcs]
        rw [if_pos this.1, this.2]
      · cases h
    · cases h

/-- m cells from off on. -/
noncomputable def xcut (cs : List AV) (off m : Nat) (k : List AV → Option β) : Option β := lenK cs 0 fun n => match Nat.ble (Nat.add off m) n with
  | true => fcL ((cs.drop off).take m) k
  | false => none
theorem xcut_sound {cs : List AV} {off m : Nat} {k : List AV → Option β} {r : β} (h : xcut cs off m k = some r) : off + m ≤ cs.length ∧ k ((cs.drop off).take m) = some r := by
  unfold xcut at h
  simp only [lenK_eq, fcL_eq, Nat.zero_add] at h
  split at h
  · rename_i hb
    exact ⟨Nat.le_of_ble_eq_true hb, h⟩
  · cases h

noncomputable def xrdmp (id off : Nat) (G : Gl) (H : Hp) (m : Nat) (k : List AV → Option β) : Option β := match H.get id with
    | some (.cells cs) => xcut cs off m k
    | _ => none
noncomputable def xrdme (id i off : Nat) (G : Gl) (H : Hp) (m : Nat) (k : List AV → Option β) : Option β := match H.get id with
    | some (.arr sz es) => match Nat.ble (Nat.add off m) sz with
      | true => match lget es i with
        | some e => xcells e fun cs => fcL ((cs.drop off).take m) k
        | none => none
      | false => none
    | _ => none
noncomputable def xrdmi (cs : List AV) (off : Nat) (G : Gl) (H : Hp) (m : Nat) (k : List AV → Option β) : Option β := xcut cs off m k
noncomputable def xrdmg (g off : Nat) (G : Gl) (H : Hp) (m : Nat) (k : List AV → Option β) : Option β := match G g with
    | some cs => xcut cs off m k
    | none => none
noncomputable def xrdmA (a : AV) : Gl → Hp → Nat → (List AV → Option β) → Option β := AV.casesOn (motive_1 := fun _ => Gl → Hp → Nat → (List AV → Option β) → Option β) a
  (fun _ _ _ _ _ => none)
  (fun _ _ _ _ _ => none)
  (fun _ _ _ _ _ => none)
  (xrdmp)
  (xrdme)
  (fun _ _ _ _ _ _ _ _ => none)
  (fun _ _ _ _ => none)
  (fun _ _ _ _ _ => none)
  (xrdmi)
  (fun _ _ _ _ _ _ _ => none)
  (fun _ _ _ _ _ => none)
  (fun _ _ _ _ _ _ => none)
  (fun _ _ _ _ _ => none)
  (xrdmg)
  (fun _ _ _ _ _ _ _ _ _ => none)
  (fun _ _ _ _ => none)
noncomputable def xrdm (G : Gl) (H : Hp) (a : AV) (m : Nat) (k : List AV → Option β) : Option β := xrdmA a G H m k

theorem xrdm_sound {H : Hp} {a : AV} {m : Nat} {k : List AV → Option β} {r : β} (h : xrdm G H a m k = some r) : ∃ x, rdCells G H.abs a m = some x ∧ k x = some r := by
  unfold xrdm at h
  cases a <;> simp only [xrdmA] at h
  all_goals first | (cases h; done) | skip
  all_goals simp only [xrdmp, xrdme, xrdmi, xrdmg, fcL_eq, xcells_eq, lget_eq, Hp.get_eq] at h
  · split at h
    · rename_i cs hcs
      have := xcut_sound h
      exact ⟨_, by simp only [rdCells, hcs]; rw [if_pos this.1], this.2⟩
    · cases h
  · split at h
    · rename_i sz es hcs
      split at h
      · rename_i hsz
        split at h
        · rename_i e he
          refine ⟨_, ?_, h⟩
          simp only [rdCells, hcs]
          rw [if_pos ⟨lt_some he, Nat.le_of_ble_eq_true hsz⟩, getD_some he]
        · cases h
      · cases h
    · cases h
  · have := xcut_sound h
    exact ⟨_, by simp only [rdCells]; rw [if_pos this.1], this.2⟩
  · split at h
    · rename_i cs hcs
      have := xcut_sound h
      exact ⟨_, by simp only [rdCells, hcs]; rw [if_pos this.1], this.2⟩
    · cases h

noncomputable def xload (te : Tr TI) (G : Gl) (t : TypeId) (a : AV) (H : Hp) (k : AV → Option β) : Option β := match te.get t with
  | some i => match i.agg with
    | true => xrdm G H a i.sz fun cs => k (.agg cs)
    | false => xrd1 G H a k
  | none => none
theorem xload_sound (hte : TEok P te) {t : TypeId} {a : AV} {H : Hp} {k : AV → Option β} {r : β} (h : xload te G t a H k = some r) : ∃ v, aload P G t a H.abs = some v ∧ k v = some r := by
  unfold xload at h
  split at h
  · rename_i i hi
    obtain ⟨h1, h2, h3, _⟩ := hte t i hi
    unfold aload
    rw [h2, h3]
    split at h
    · rename_i e
      rw [e]
      obtain ⟨x, h4, h5⟩ := xrdm_sound h
      exact ⟨_, by simp only [h4]; rfl, h5⟩
    · rename_i e
      rw [e]
      obtain ⟨x, h4, h5⟩ := xrd1_sound h
      exact ⟨_, by simp only [h4], h5⟩
  · cases h

/-! ### Stores -/

noncomputable def xisEl (a : AV) : Bool := match a with
  | .tup _ => false
  | _ => true
theorem xisEl_eq (a : AV) : xisEl a = a.isEl := by cases a <;> rfl

noncomputable def xwrp (id off : Nat) (H : Hp) (news : List AV) (k : Hp → Option β) : Option β := match H.get id with
    | some (.cells cs) => lenK news 0 fun m => lenK cs 0 fun n => match Nat.ble (Nat.add off m) n with
      | true => fcL (splice cs off news) fun cs' => H.setK id (.cells cs') k
      | false => none
    | _ => none
noncomputable def xwre (id i off : Nat) (H : Hp) (news : List AV) (k : Hp → Option β) : Option β := match H.get id with
    | some (.arr sz es) => lenK news 0 fun m => match Nat.ble (Nat.add off m) sz with
      | true => match lget es i with
        | some e => xcells e fun cs => fcL (splice cs off news) fun cs' => fcT (reEl e cs') fun e' => fcL (es.set i e') fun es' => H.setK id (.arr sz es') k
        | none => none
      | false => none
    | _ => none
noncomputable def xwrA (a : AV) : Hp → List AV → (Hp → Option β) → Option β := AV.casesOn (motive_1 := fun _ => Hp → List AV → (Hp → Option β) → Option β) a
  (fun _ _ _ _ => none)
  (fun _ _ _ _ => none)
  (fun _ _ _ _ => none)
  (xwrp)
  (xwre)
  (fun _ _ _ _ _ _ _ => none)
  (fun _ _ _ => none)
  (fun _ _ _ _ => none)
  (fun _ _ _ _ _ => none)
  (fun _ _ _ _ _ _ => none)
  (fun _ _ _ _ => none)
  (fun _ _ _ _ _ => none)
  (fun _ _ _ _ => none)
  (fun _ _ _ _ _ => none)
  (fun _ _ _ _ _ _ _ _ => none)
  (fun _ _ _ => none)
noncomputable def xwr (H : Hp) (a : AV) (news : List AV) (k : Hp → Option β) : Option β := xwrA a H news k

theorem xwr_sound {H : Hp} {a : AV} {news : List AV} {k : Hp → Option β} {r : β} (h : xwr H a news k = some r) : ∃ H', wrCells H.abs a news = some H'.abs ∧ k H' = some r := by
  unfold xwr at h
  cases a <;> simp only [xwrA] at h
  all_goals first | (cases h; done) | skip
  all_goals simp only [xwrp, xwre, fcL_eq, fcT_eq, xcells_eq, lget_eq, Hp.get_eq, Hp.setK_eq, lenK_eq, Nat.zero_add] at h
  · split at h
    · rename_i cs hcs
      split at h
      · rename_i hb
        refine ⟨_, ?_, h⟩
        simp only [wrCells, hcs, Hp.abs_set]
        exact if_pos (Nat.le_of_ble_eq_true hb)
      · cases h
    · cases h
  · split at h
    · rename_i sz es hcs
      split at h
      · rename_i hb
        split at h
        · rename_i e he
          refine ⟨_, ?_, h⟩
          simp only [wrCells, hcs, Hp.abs_set]
          rw [getD_some he]
          exact if_pos ⟨lt_some he, Nat.le_of_ble_eq_true hb⟩
        · cases h
      · cases h
    · cases h

noncomputable def xstore (te : Tr TI) (t : TypeId) (a v : AV) (H : Hp) (k : Hp → Option β) : Option β := match te.get t with
  | some i => match xisEl v with
    | true => xcells v fun cs => lenK cs 0 fun n => match Nat.beq i.sz n with
      | true => xwr H a cs k
      | false => none
    | false => none
  | none => none
theorem xstore_sound (hte : TEok P te) {t : TypeId} {a v : AV} {H : Hp} {k : Hp → Option β} {r : β} (h : xstore te t a v H k = some r) : ∃ H', astore P t a v H.abs = some H'.abs ∧ k H' = some r := by
  unfold xstore at h
  split at h
  · rename_i i hi
    obtain ⟨h1, h2, h3, _⟩ := hte t i hi
    simp only [xcells_eq, lenK_eq, Nat.zero_add, xisEl_eq] at h
    split at h
    · rename_i he
      split at h
      · rename_i hb
        obtain ⟨H', h4, h5⟩ := xwr_sound h
        refine ⟨H', ?_, h5⟩
        unfold astore
        rw [if_pos ⟨he, by rw [h3, Nat.eq_of_beq_eq_true hb]⟩]
        exact h4
      · cases h
    · cases h
  · cases h

/-! ### Addresses and parts -/

noncomputable def xnonNil (a : AV) : Bool := match a with
  | .ptr _ _ => true
  | .eptr _ _ _ => true
  | .iptr _ _ => true
  | .gp _ _ => true
  | .fn _ _ _ => true
  | _ => false
theorem xnonNil_eq (a : AV) : xnonNil a = nonNil a := by cases a <;> rfl

noncomputable def xptrAdd (a : AV) : Nat → (AV → Option β) → Option β := AV.casesOn (motive_1 := fun _ => Nat → (AV → Option β) → Option β) a
  (fun _ _ _ => none)
  (fun _ _ _ => none)
  (fun _ _ _ => none)
  (fun id off n k => fcN (Nat.add off n) fun o => k (.ptr id o))
  (fun id i off n k => fcN (Nat.add off n) fun o => k (.eptr id i o))
  (fun _ _ _ _ _ _ => none)
  (fun _ _ => none)
  (fun _ _ _ => none)
  (fun cs off n k => fcN (Nat.add off n) fun o => k (.iptr cs o))
  (fun _ _ _ _ _ => none)
  (fun _ _ _ => none)
  (fun _ _ _ _ => none)
  (fun _ _ _ => none)
  (fun g off n k => fcN (Nat.add off n) fun o => k (.gp g o))
  (fun _ _ _ _ _ _ _ => none)
  (fun _ _ => none)

theorem xptrAdd_sound {a : AV} {n : Nat} {k : AV → Option β} {r : β} (h : xptrAdd a n k = some r) : ∃ v, ptrAdd a n = some v ∧ k v = some r := by
  unfold xptrAdd at h
  cases a <;> simp only [fcN_eq] at h <;> first
    | (cases h; done)
    | exact ⟨_, rfl, h⟩

noncomputable def xfieldAddr (te : Tr TI) (s : TypeId) (a : AV) (f : Nat) (k : AV → Option β) : Option β := match te.get s with
  | some i => match i.und with
    | .struct fields => match lget fields.toList f with
      | some fl => match te.get fl.type with
        | some j => match j.sz with
          | _ + 1 => xptrAdd a fl.offset k
          | 0 => none
        | none => none
      | none => none
    | _ => none
  | none => none
theorem xfieldAddr_sound (hte : TEok P te) {s : TypeId} {a : AV} {f : Nat} {k : AV → Option β} {r : β} (h : xfieldAddr te s a f k = some r) :
    ∃ o v, fieldOffA P s f = some o ∧ ptrAdd a o = some v ∧ k v = some r := by
  unfold xfieldAddr at h
  simp only [lget_eq, Array.getElem?_toList] at h
  split at h
  · rename_i i hi
    obtain ⟨h1, _⟩ := hte _ i hi
    split at h
    · rename_i fields hf
      rw [hf] at h1
      split at h
      · rename_i fl hfl
        split at h
        · rename_i j hj
          obtain ⟨_, _, h3, _⟩ := hte _ j hj
          split at h
          · rename_i m hm
            rw [hm] at h3
            obtain ⟨v, h4, h5⟩ := xptrAdd_sound h
            exact ⟨_, v, by simp only [fieldOffA, h1, hfl, h3], h4, h5⟩
          · cases h
        · cases h
      · cases h
    · cases h
  · cases h

noncomputable def toNatK (i : Int) (k : Nat → Option β) : Option β := match i with
  | .ofNat n => k n
  | .negSucc _ => none
theorem toNatK_sound {i : Int} {k : Nat → Option β} {r : β} (h : toNatK i k = some r) : 0 ≤ i ∧ ∃ n : Nat, i = n ∧ i.toNat = n ∧ k n = some r := by
  cases i with
  | ofNat n => exact ⟨by simp, n, rfl, rfl, h⟩
  | negSucc n => cases h

noncomputable def xidxAddr (te : Tr TI) (t : TypeId) (x : AV) (i : Int) (H : Hp) (k : AV → Option β) : Option β := match te.get t with
  | some ti => match ti.und with
    | .array len elem => match te.get elem with
      | some el => toNatK i fun n => match Nat.blt n len with
        | true => match Nat.blt 1 len with
          | true => xptrAdd x (Nat.mul n el.sz) k
          | false => none
        | false => none
      | none => none
    | .slice elem => match te.get elem with
      | some el => toNatK i fun n => match x with
        | .sl id st len cap => match H.get id with
          | some (.arr sz' es) => match Nat.beq sz' el.sz with
            | true => match Nat.blt n len with
              | true => fcN (Nat.add st n) fun j => k (.eptr id j 0)
              | false => none
            | false => none
          | _ => none
        | .bs id off len cap sz' => match Nat.beq sz' el.sz with
          | true => match Nat.blt n len with
            | true => fcN (Nat.add off (Nat.mul n el.sz)) fun j => k (.ptr id j)
            | false => none
          | false => none
        | .isl es => match lget es n with
          | some e => xcells e fun cs => lenK cs 0 fun m => match Nat.beq m el.sz with
            | true => k (.iptr cs 0)
            | false => none
          | none => none
        | _ => none
      | none => none
    | _ => none
  | none => none
theorem xidxAddr_sound (hte : TEok P te) {t : TypeId} {x : AV} {i : Int} {H : Hp} {k : AV → Option β} {r : β} (h : xidxAddr te t x i H k = some r) :
    ∃ (c : Prop) (v : AV), aIdxAddr P t x i H.abs = some (c, v) ∧ c ∧ k v = some r := by
  unfold xidxAddr at h
  simp only [lget_eq, Hp.get_eq, fcN_eq, xcells_eq, lenK_eq, Nat.zero_add] at h
  split at h
  · rename_i ti hti
    obtain ⟨h1, _⟩ := hte _ ti hti
    split at h
    · rename_i len elem hu
      rw [hu] at h1
      split at h
      · rename_i el hel
        obtain ⟨_, _, h3, _⟩ := hte _ el hel
        have h9 := toNatK_sound h
        clear h
        obtain ⟨h0, n, rfl, hn, h⟩ := h9
        split at h
        · rename_i hb
          split at h
          · rename_i hb1
            obtain ⟨v, h4, h5⟩ := xptrAdd_sound h
            refine ⟨_, v, by simp only [aIdxAddr, h1, h3]; rw [if_pos ((blt_iff _ _).1 hb1), hn]; show Option.map _ (ptrAdd x (Nat.mul n el.sz)) = _; rw [h4]; rfl, ?_, h5⟩
            have := (blt_iff _ _).1 hb
            omega
          · cases h
        · cases h
      · cases h
    · rename_i elem hu
      rw [hu] at h1
      split at h
      · rename_i el hel
        obtain ⟨_, _, h3, _⟩ := hte _ el hel
        have h9 := toNatK_sound h
        clear h
        obtain ⟨h0, n, rfl, hn, h⟩ := h9
        split at h
        · rename_i id st len cap
          split at h
          · rename_i sz' es ho
            split at h
            · rename_i hs
              split at h
              · rename_i hb
                have := (blt_iff _ _).1 hb
                exact ⟨_, _, by simp only [aIdxAddr, h1, h3, ho]; rw [if_pos (Nat.eq_of_beq_eq_true hs)], by omega, by simpa [hn] using h⟩
              · cases h
            · cases h
          · cases h
        · rename_i id off len cap sz'
          split at h
          · rename_i hs
            split at h
            · rename_i hb
              have := (blt_iff _ _).1 hb
              exact ⟨_, _, by simp only [aIdxAddr, h1, h3]; rw [if_pos (Nat.eq_of_beq_eq_true hs)], by omega, by simpa [hn] using h⟩
            · cases h
          · cases h
        · rename_i es
          split at h
          · rename_i e he
            have hi := lt_some he
            split at h
            · rename_i hs
              have hg := getD_some he
              refine ⟨_, _, by simp only [aIdxAddr, h1, h3]; rfl, ?_, by rw [hn, hg]; exact h⟩
              exact ⟨⟨h0, by omega⟩, by rw [hn, hg]; exact Nat.eq_of_beq_eq_true hs⟩
            · cases h
          · cases h
        · cases h
      · cases h
    · cases h
  · cases h

noncomputable def xpart (te : Tr TI) (t : TypeId) (cs : List AV) (off : Nat) (k : AV → Option β) : Option β := match te.get t with
  | some i => match i.agg with
    | true => xcut cs off i.sz fun cs => k (.agg cs)
    | false => match lget cs off with
      | some x => fcT x k
      | none => none
  | none => none
theorem xpart_sound (hte : TEok P te) {t : TypeId} {cs : List AV} {off : Nat} {k : AV → Option β} {r : β} (h : xpart te t cs off k = some r) : ∃ v, aPart P t cs off = some v ∧ k v = some r := by
  unfold xpart at h
  simp only [lget_eq, fcT_eq] at h
  split at h
  · rename_i i hi
    obtain ⟨h1, h2, h3, _⟩ := hte _ i hi
    unfold aPart
    rw [h2, h3]
    split at h
    · rename_i e
      rw [e]
      have := xcut_sound h
      exact ⟨_, by simp only []; rw [if_pos this.1], this.2⟩
    · rename_i e
      rw [e]
      split at h
      · rename_i x hx; exact ⟨x, hx, h⟩
      · cases h
  · cases h

noncomputable def xidx (te : Tr TI) (t : TypeId) (x : AV) (i : Int) (k : AV → Option β) : Option β := match te.get t with
  | some ti => match ti.und with
    | .array len elem => match te.get elem with
      | some el => toNatK i fun n => match Nat.blt n len with
        | true => match x with
          | .agg cs => fcN (Nat.mul n el.sz) fun off => xpart te elem cs off k
          | _ => none
        | false => none
      | none => none
    | .string => match x with
      | .c (.string s) => toNatK i fun n => match lget s.data.toList n with
        | some b => fcN b.toNat fun b => k (.c (.int .u8 (.ofNat b)))
        | none => none
      | _ => none
    | _ => none
  | none => none
theorem xidx_sound (hte : TEok P te) {t : TypeId} {x : AV} {i : Int} {k : AV → Option β} {r : β} (h : xidx te t x i k = some r) :
    ∃ (c : Prop) (v : AV), aIdx P t x i = some (c, v) ∧ c ∧ k v = some r := by
  unfold xidx at h
  simp only [fcN_eq] at h
  split at h
  · rename_i ti hti
    obtain ⟨h1, _⟩ := hte _ ti hti
    split at h
    · rename_i len elem hu
      rw [hu] at h1
      split at h
      · rename_i el hel
        obtain ⟨_, _, h3, _⟩ := hte _ el hel
        have h9 := toNatK_sound h
        clear h
        obtain ⟨h0, n, rfl, hn, h⟩ := h9
        split at h
        · rename_i hb
          split at h
          · rename_i cs
            obtain ⟨v, h4, h5⟩ := xpart_sound hte h
            have := (blt_iff _ _).1 hb
            refine ⟨_, v, by simp only [aIdx, h1, h3, hn]; show Option.map _ (aPart P elem cs (Nat.mul n el.sz)) = _; rw [h4]; rfl, by omega, h5⟩
          · cases h
        · cases h
      · cases h
    · rename_i hu
      rw [hu] at h1
      split at h
      · rename_i s
        have h9 := toNatK_sound h
        clear h
        obtain ⟨h0, n, rfl, hn, h⟩ := h9
        rw [lget_eq] at h
        split at h
        · rename_i b hb
          refine ⟨_, _, by simp only [aIdx, h1, hn, hb]; rfl, h0, h⟩
        · cases h
      · cases h
    · cases h
  · cases h

noncomputable def xfield (te : Tr TI) (t : TypeId) (x : AV) (f : Nat) (k : AV → Option β) : Option β := match te.get t with
  | some ti => match ti.und with
    | .struct fields => match x with
      | .agg cs => match lget fields.toList f with
        | some fl => xpart te fl.type cs fl.offset k
        | none => none
      | _ => none
    | _ => none
  | none => none
theorem xfield_sound (hte : TEok P te) {t : TypeId} {x : AV} {f : Nat} {k : AV → Option β} {r : β} (h : xfield te t x f k = some r) : ∃ v, aField P t x f = some v ∧ k v = some r := by
  unfold xfield at h
  simp only [lget_eq, Array.getElem?_toList] at h
  split at h
  · rename_i ti hti
    obtain ⟨h1, _⟩ := hte _ ti hti
    split at h
    · rename_i fields hu
      rw [hu] at h1
      split at h
      · rename_i cs
        split at h
        · rename_i fl hfl
          obtain ⟨v, h4, h5⟩ := xpart_sound hte h
          exact ⟨v, by simp only [aField, h1, hfl]; exact h4, h5⟩
        · cases h
      · cases h
    · cases h
  · cases h

/-! ### Values made of parts -/

noncomputable def xfill (place : Nat → Option (Nat × Nat)) (cells : List AV) : List (Nat × AV) → (List AV → Option β) → Option β
  | [], k => k cells
  | p :: rest, k => match p with
    | (i, v) => match place i with
      | some (off, size) => match xisEl v with
        | true => xcells v fun vs => lenK vs 0 fun m => match Nat.beq m size with
          | true => lenK cells 0 fun n => match Nat.ble (Nat.add off size) n with
            | true => fcL (splice cells off vs) fun cells' => xfill place cells' rest k
            | false => none
          | false => none
        | false => none
      | none => none
theorem xfill_sound {place : Nat → Option (Nat × Nat)} {k : List AV → Option β} {r : β} : ∀ {l : List (Nat × AV)} {cells : List AV}, xfill place cells l k = some r → ∃ cs, aFill place cells l = some cs ∧ k cs = some r
  | [], cells, h => ⟨_, rfl, h⟩
  | (i, v) :: rest, cells, h => by
    simp only [xfill, fcL_eq, xcells_eq, lenK_eq, Nat.zero_add, xisEl_eq] at h
    split at h
    · rename_i off size hp
      split at h
      · rename_i he
        split at h
        · rename_i hm
          split at h
          · rename_i hb
            obtain ⟨cs, h1, h2⟩ := xfill_sound h
            refine ⟨cs, ?_, h2⟩
            simp only [aFill, hp]
            rw [if_pos ⟨he, Nat.eq_of_beq_eq_true hm, Nat.le_of_ble_eq_true hb⟩]
            exact h1
          · cases h
        · cases h
      · cases h
    · cases h

noncomputable def xplace (te : Tr TI) (fields : List Field) (i : Nat) : Option (Nat × Nat) := match lget fields i with
  | some f => match te.get f.type with
    | some j => some (f.offset, j.sz)
    | none => none
  | none => none

noncomputable def xallTe (te : Tr TI) : List Field → Bool
  | [] => true
  | f :: l => match te.get f.type with
    | some _ => xallTe te l
    | none => false

theorem aFill_congr {p q : Nat → Option (Nat × Nat)} (h : ∀ i x, p i = some x → q i = some x) : ∀ {l : List (Nat × AV)} {cells cs : List AV}, aFill p cells l = some cs → aFill q cells l = some cs
  | [], cells, cs, hh => hh
  | (i, v) :: rest, cells, cs, hh => by
    simp only [aFill] at hh ⊢
    split at hh
    · cases hh
    · rename_i off size hp
      rw [h _ _ hp]
      simp only []
      split at hh
      · rename_i hc; rw [if_pos hc]; exact aFill_congr h hh
      · cases hh

noncomputable def xbuild (te : Tr TI) (t : TypeId) (parts : List (Nat × AV)) (k : AV → Option β) : Option β := match te.get t with
  | some ti => match ti.zc with
    | some z => match ti.und with
      | .struct fields => match xallTe te fields.toList with
        | true => xfill (xplace te fields.toList) z parts fun cs => k (.agg cs)
        | false => none
      | .array _ elem => match te.get elem with
        | some el => xfill (fun i => some (Nat.mul i el.sz, el.sz)) z parts fun cs => k (.agg cs)
        | none => none
      | _ => none
    | none => none
  | none => none
theorem xallTe_sound (hte : TEok P te) : ∀ {l : List Field}, xallTe te l = true → l.all (fun f => (szT P f.type).isSome) = true
  | [], _ => rfl
  | f :: l, h => by
    simp only [xallTe] at h
    split at h
    · rename_i j hj
      obtain ⟨_, _, h3, _⟩ := hte _ j hj
      simp [h3]
      have := xallTe_sound hte h
      simpa using this
    · cases h
theorem xbuild_sound (hte : TEok P te) {t : TypeId} {parts : List (Nat × AV)} {k : AV → Option β} {r : β} (h : xbuild te t parts k = some r) : ∃ v, aBuild P t parts = some v ∧ k v = some r := by
  unfold xbuild at h
  split at h
  · rename_i ti hti
    obtain ⟨h1, _, _, _, h5, _⟩ := hte _ ti hti
    split at h
    · rename_i z hz
      rw [hz] at h5
      split at h
      · rename_i fields hu
        rw [hu] at h1
        split at h
        · rename_i ha
          obtain ⟨cs, h6, h7⟩ := xfill_sound h
          refine ⟨.agg cs, ?_, h7⟩
          have h8 : aFill (fieldPlaces P fields) z parts = some cs := aFill_congr (fun i x hx => by
            unfold xplace at hx
            simp only [lget_eq, Array.getElem?_toList] at hx
            unfold fieldPlaces
            split at hx
            · rename_i f hf
              split at hx
              · rename_i j hj
                obtain ⟨_, _, h3, _⟩ := hte _ j hj
                cases hx
                simp [hf, h3]
              · cases hx
            · cases hx) h6
          have h9 := xallTe_sound hte ha
          simp only [aBuild, h5, h1, h8]
          rw [if_pos (by rw [Array.all_toList]  at h9; exact h9)]; rfl
        · cases h
      · rename_i n elem hu
        rw [hu] at h1
        split at h
        · rename_i el hel
          obtain ⟨_, _, h3, _⟩ := hte _ el hel
          obtain ⟨cs, h6, h7⟩ := xfill_sound h
          refine ⟨.agg cs, ?_, h7⟩
          simp only [aBuild, h5, h1, h3]
          have h6' : aFill (fun i => some (i * el.sz, el.sz)) z parts = some cs := h6
          rw [h6']; rfl
        · cases h
      · cases h
    · cases h
  · cases h

noncomputable def xfillEs (len sz : Nat) (es : List AV) : List (Nat × AV) → (List AV → Option β) → Option β
  | [], k => k es
  | p :: rest, k => match p with
    | (i, v) => match xisEl v with
      | true => xcells v fun vs => lenK vs 0 fun m => match Nat.beq m sz with
        | true => match Nat.blt i len with
          | true => fcL (es.set i v) fun es' => xfillEs len sz es' rest k
          | false => none
        | false => none
      | false => none
theorem xfillEs_sound {len sz : Nat} {k : List AV → Option β} {r : β} : ∀ {l : List (Nat × AV)} {es : List AV}, xfillEs len sz es l k = some r → ∃ cs, aFillEs len sz es l = some cs ∧ k cs = some r
  | [], es, h => ⟨_, rfl, h⟩
  | (i, v) :: rest, es, h => by
    simp only [xfillEs, fcL_eq, xcells_eq, lenK_eq, Nat.zero_add, xisEl_eq] at h
    split at h
    · rename_i he
      split at h
      · rename_i hm
        split at h
        · rename_i hb
          obtain ⟨cs, h1, h2⟩ := xfillEs_sound h
          refine ⟨cs, ?_, h2⟩
          simp only [aFillEs]
          rw [if_pos ⟨he, Nat.eq_of_beq_eq_true hm, (blt_iff _ _).1 hb⟩]
          exact h1
        · cases h
      · cases h
    · cases h

noncomputable def repK (x : AV) : Nat → (List AV → Option β) → Option β
  | 0, k => k []
  | n + 1, k => repK x n fun l => k (x :: l)
theorem repK_eq (x : AV) : ∀ (n : Nat) (k : List AV → Option β), repK x n k = k (List.replicate n x)
  | 0, k => rfl
  | n + 1, k => by simp only [repK, repK_eq x n, List.replicate_succ]

/-! ### Slices -/

noncomputable def xbound (d : Nat) (v : Option AV) (k : Nat → Option β) : Option β := match v with
  | none => fcN d k
  | some a => match a with
    | .c (.int _ n) => toNatK n k
    | _ => none
theorem xbound_sound {d : Nat} {v : Option AV} {k : Nat → Option β} {r : β} (h : xbound d v k = some r) : ∃ (c : Prop) (n : Nat), aBound d v = some (c, n) ∧ c ∧ k n = some r := by
  unfold xbound at h
  split at h
  · rw [fcN_eq] at h; exact ⟨_, _, rfl, trivial, h⟩
  · split at h
    · have h9 := toNatK_sound h
      clear h
      obtain ⟨h0, n, rfl, hn, h⟩ := h9
      exact ⟨_, _, rfl, h0, by rw [hn]; exact h⟩
    · cases h

noncomputable def xint0 (v : Option AV) (k : Option β) : Option β := match v with
  | some (.c (.int _ n)) => match ieq n 0 with
    | true => k
    | false => none
  | _ => none
theorem xint0_sound {v : Option AV} {k : Option β} {r : β} (h : xint0 v k = some r) : ∃ kd, v = some (.c (.int kd 0)) ∧ k = some r := by
  unfold xint0 at h
  split at h
  · rename_i kd n
    split at h
    · rename_i e
      rw [ieq_eq] at e
      have : n = 0 := by simpa using e
      subst this
      exact ⟨kd, rfl, h⟩
    · cases h
  · cases h

/-- s[0:0:0] is a slice of nothing. -/
noncomputable def xzero (lo hi mx : Option AV) (k : Option β) : Option β := xbound 0 lo fun l => match l with
  | 0 => xint0 hi (xint0 mx k)
  | _ + 1 => none
theorem xzero_sound {lo hi mx : Option AV} {k : Option β} {r : β} (h : xzero lo hi mx k = some r) :
    ∃ (c1 : Prop) (k1 k2 : IntKind), aBound 0 lo = some (c1, 0) ∧ c1 ∧ hi = some (.c (.int k1 0)) ∧ mx = some (.c (.int k2 0)) ∧ k = some r := by
  unfold xzero at h
  obtain ⟨c1, l, h1, h2, h⟩ := xbound_sound h
  split at h
  · obtain ⟨k1, h3, h⟩ := xint0_sound h
    obtain ⟨k2, h4, h⟩ := xint0_sound h
    exact ⟨c1, k1, k2, h1, h2, h3, h4, h⟩
  · cases h

noncomputable def xslm (sz : Nat) (lo hi : Option AV) (m : AV) (id st cap : Nat) (H : Hp) (k : AV → Option β) : Option β := match m with
  | .c (.int _ q) => match ieq q 0 with
    | true => xzero lo hi (some m) (k .zs)
    | false => match hi with
      | some (.c (.int _ h)) => toNatK h fun h => toNatK q fun q => xbound 0 lo fun l => match H.get id with
        | some (.arr sz' _) => match Nat.beq sz' sz with
          | true => match Nat.ble l h with
            | true => match Nat.ble h q with
              | true => match Nat.ble q cap with
                | true => fcN (Nat.add st l) fun st' => fcN (Nat.sub h l) fun n' => fcN (Nat.sub q l) fun c' => k (.sl id st' n' c')
                | false => none
              | false => none
            | false => none
          | false => none
        | _ => none
      | _ => none
  | _ => none
theorem xslm_sound {t elem : TypeId} {sz : Nat} (h1 : P.underlying t = some (.slice elem)) (h3 : szT P elem = some sz) {lo hi : Option AV} {m : AV} {id st len cap : Nat} {H : Hp} {k : AV → Option β} {r : β} (h : xslm sz lo hi m id st cap H k = some r) :
    ∃ (c : Prop) (v : AV), aSlice P t (.sl id st len cap) H.abs lo hi (some m) = some (c, v) ∧ c ∧ k v = some r := by
  unfold xslm at h
  simp only [fcN_eq, Hp.get_eq] at h
  split at h
  · rename_i kd q
    split at h
    · have h9 := xzero_sound h
      clear h
      obtain ⟨c1, k1, k2, hl, hc1, rfl, hm, h⟩ := h9
      cases hm
      refine ⟨c1 ∧ 0 = 0 ∧ (0 : Int) = 0, .zs, by simp only [aSlice, h1, h3, aInt, hl, Option.bind_some]; rfl, ⟨hc1, rfl, rfl⟩, h⟩
    · rename_i hq
      rw [ieq_eq] at hq
      have hq0 : ¬ q = 0 := by simpa using hq
      split at h
      · rename_i kh hh
        obtain ⟨h0, h', rfl, hn, h⟩ := toNatK_sound h
        obtain ⟨g0, q', rfl, hn2, h⟩ := toNatK_sound h
        obtain ⟨c1, l, hl, hc1, h⟩ := xbound_sound h
        split at h
        · rename_i sz' es ho
          split at h
          · rename_i hs
            split at h
            · rename_i b1
              split at h
              · rename_i b2
                split at h
                · rename_i b3
                  have e1 := Nat.le_of_ble_eq_true b1
                  have e2 := Nat.le_of_ble_eq_true b2
                  have e3 := Nat.le_of_ble_eq_true b3
                  refine ⟨c1 ∧ 0 ≤ (h' : Int) ∧ l ≤ (h' : Int).toNat ∧ (h' : Int) ≤ q' ∧ (q' : Int) ≤ cap, .sl id (st + l) ((h' : Int).toNat - l) ((q' : Int).toNat - l), by simp only [aSlice, h1, h3, aInt, hl, Option.bind_some, ho]; rw [if_neg hq0, if_pos (Nat.eq_of_beq_eq_true hs)], ⟨hc1, by omega, by omega, by omega, by omega⟩, ?_⟩
                  exact h
                · cases h
              · cases h
            · cases h
          · cases h
        · cases h
      · cases h
  · cases h
noncomputable def xslice (te : Tr TI) (t : TypeId) (x : AV) (H : Hp) (lo hi mx : Option AV) (k : AV → Option β) : Option β := match te.get t with
  | some ti => match ti.und with
    | .slice elem => match te.get elem with
      | some el => match mx with
        | none => match x with
          | .sl id st len cap => match H.get id with
            | some (.arr sz' es) => match Nat.beq sz' el.sz with
              | true => xbound 0 lo fun l => xbound len hi fun h => match Nat.ble l h with
                | true => match Nat.ble h cap with
                  | true => fcN (Nat.add st l) fun st' => fcN (Nat.sub h l) fun n' => fcN (Nat.sub cap l) fun c' => k (.sl id st' n' c')
                  | false => none
                | false => none
              | false => none
            | _ => none
          | .isl es => lenK es 0 fun n => xbound 0 lo fun l => xbound n hi fun h => match Nat.ble l h with
            | true => match Nat.ble h n with
              | true => match Nat.blt l h with
                | true => match lget es l with
                  | some e => xcells e fun cs => lenK cs 0 fun m => match Nat.beq m el.sz with
                    | true => fcL ((es.drop l).take (Nat.sub h l)) fun es' => k (.isl es')
                    | false => none
                  | none => none
                | false => k (.isl [])
              | false => none
            | false => none
          | .c (.slice none 0 0) => xbound 0 lo fun l => xbound 0 hi fun h => match Nat.beq l 0 with
            | true => match Nat.beq h 0 with
              | true => k (.c (.slice none 0 0))
              | false => none
            | false => none
          | .zs => xbound 0 lo fun l => xbound 0 hi fun h => match Nat.beq l 0 with
            | true => match Nat.beq h 0 with
              | true => k .zs
              | false => none
            | false => none
          | _ => none
        | some m => match x with
          | .c (.slice none 0 0) => xzero lo hi (some m) (k (.c (.slice none 0 0)))
          | .isl _ => xzero lo hi (some m) (k .zs)
          | .sl id st _ cap => xslm el.sz lo hi m id st cap H k
          | .zs => xzero lo hi (some m) (k .zs)
          | _ => none
      | none => none
    | .array m elem => match mx with
      | none => match x with
        | .ptr id off => match te.get elem with
          | some el => xbound 0 lo fun l => xbound m hi fun h => match Nat.ble l h with
            | true => match Nat.ble h m with
              | true => match Nat.blt l m with
                | true => fcN (Nat.add off (Nat.mul l el.sz)) fun o => fcN (Nat.sub h l) fun n' => fcN (Nat.sub m l) fun c' => k (.bs id o n' c' el.sz)
                | false => none
              | false => none
            | false => none
          | none => none
        | .iptr cs off => match te.get elem with
          | some el => match Nat.beq el.sz 1 with
            | true => xbound 0 lo fun l => xbound m hi fun h => match Nat.ble l h with
              | true => match Nat.ble h m with
                | true => match Nat.blt l m with
                  | true => lenK cs 0 fun n => match Nat.ble (Nat.add off m) n with
                    | true => fcL ((cs.drop (Nat.add off l)).take (Nat.sub h l)) fun es' => k (.isl es')
                    | false => none
                  | false => none
                | false => none
              | false => none
            | false => none
          | none => none
        | _ => none
      | some _ => none
    | _ => none
  | none => none

theorem xslice_sound (hte : TEok P te) {t : TypeId} {x : AV} {H : Hp} {lo hi mx : Option AV} {k : AV → Option β} {r : β} (h : xslice te t x H lo hi mx k = some r) :
    ∃ (c : Prop) (v : AV), aSlice P t x H.abs lo hi mx = some (c, v) ∧ c ∧ k v = some r := by
  unfold xslice at h
  simp only [fcN_eq, fcL_eq, lenK_eq, Nat.zero_add, xcells_eq, lget_eq, Hp.get_eq] at h
  split at h
  · rename_i ti hti
    obtain ⟨h1, _⟩ := hte _ ti hti
    split at h
    · rename_i elem hu
      rw [hu] at h1
      split at h
      · rename_i el hel
        obtain ⟨_, _, h3, _⟩ := hte _ el hel
        split at h
        · split at h
          · rename_i id st len cap
            split at h
            · rename_i sz' es ho
              split at h
              · rename_i hs
                obtain ⟨c1, l, hl, hc1, h⟩ := xbound_sound h
                obtain ⟨c2, q, hh, hc2, h⟩ := xbound_sound h
                split at h
                · rename_i b1
                  split at h
                  · rename_i b2
                    refine ⟨_, _, by simp only [aSlice, h1, h3, ho, hl, hh]; rw [if_pos (Nat.eq_of_beq_eq_true hs)]; rfl, ?_, h⟩
                    exact ⟨hc1, hc2, Nat.le_of_ble_eq_true b1, Nat.le_of_ble_eq_true b2⟩
                  · cases h
                · cases h
              · cases h
            · cases h
          · rename_i es
            obtain ⟨c1, l, hl, hc1, h⟩ := xbound_sound h
            obtain ⟨c2, q, hh, hc2, h⟩ := xbound_sound h
            split at h
            · rename_i b1
              split at h
              · rename_i b2
                split at h
                · rename_i b3
                  split at h
                  · rename_i e he
                    obtain ⟨hi, rfl⟩ := List.getElem?_eq_some_iff.1 he
                    split at h
                    · rename_i hs
                      refine ⟨_, _, by simp only [aSlice, h1, h3, hl, hh]; rfl, ?_, h⟩
                      exact ⟨hc1, hc2, Nat.le_of_ble_eq_true b1, Nat.le_of_ble_eq_true b2, fun _ => by
                        rw [show es.getD l .un = es[l] by simp [List.getD, hi]]; exact Nat.eq_of_beq_eq_true hs⟩
                    · cases h
                  · cases h
                · rename_i b3
                  have b3' : ¬ l < q := fun hlt => by rw [(blt_iff _ _).2 hlt] at b3; cases b3
                  have := Nat.le_of_ble_eq_true b1
                  have e9 : (es.drop l).take (q - l) = [] := by rw [show q - l = 0 by omega, List.take_zero]
                  refine ⟨_, _, by simp only [aSlice, h1, h3, hl, hh]; rfl, ?_, by rw [e9]; exact h⟩
                  exact ⟨hc1, hc2, Nat.le_of_ble_eq_true b1, Nat.le_of_ble_eq_true b2, fun hlt => absurd hlt b3'⟩
              · cases h
            · cases h
          · obtain ⟨c1, l, hl, hc1, h⟩ := xbound_sound h
            obtain ⟨c2, q, hh, hc2, h⟩ := xbound_sound h
            split at h
            · rename_i b1
              split at h
              · rename_i b2
                have := Nat.eq_of_beq_eq_true b1
                have := Nat.eq_of_beq_eq_true b2
                refine ⟨_, _, by simp only [aSlice, h1, h3, hl, hh]; rfl, ?_, h⟩
                exact ⟨hc1, hc2, by omega, by omega⟩
              · cases h
            · cases h
          · obtain ⟨c1, l, hl, hc1, h⟩ := xbound_sound h
            obtain ⟨c2, q, hh, hc2, h⟩ := xbound_sound h
            split at h
            · rename_i b1
              split at h
              · rename_i b2
                have := Nat.eq_of_beq_eq_true b1
                have := Nat.eq_of_beq_eq_true b2
                refine ⟨_, _, by simp only [aSlice, h1, h3, hl, hh]; rfl, ?_, h⟩
                exact ⟨hc1, hc2, by omega, by omega⟩
              · cases h
            · cases h
          · cases h
        · split at h <;> first
            | (cases h; done)
            | exact xslm_sound h1 h3 h
            | (have h9 := xzero_sound h
               clear h
               obtain ⟨c1, k1, k2, hl, hc1, rfl, hm, h⟩ := h9
               cases hm
               refine ⟨_, _, by simp only [aSlice, h1, h3, aInt, hl, Option.bind_some]; rfl, ?_, h⟩
               exact ⟨hc1, by first | exact ⟨rfl, rfl, rfl⟩ | exact ⟨rfl, trivial, trivial⟩ | simp⟩)
      · cases h
    · rename_i m elem hu
      rw [hu] at h1
      split at h
      · split at h
        · rename_i id off
          split at h
          · rename_i el hel
            obtain ⟨_, _, h3, _⟩ := hte _ el hel
            obtain ⟨c1, l, hl, hc1, h⟩ := xbound_sound h
            obtain ⟨c2, q, hh, hc2, h⟩ := xbound_sound h
            split at h
            · rename_i b1
              split at h
              · rename_i b2
                split at h
                · rename_i b3
                  refine ⟨_, _, by simp only [aSlice, h1, h3, hl, hh]; rfl, ?_, h⟩
                  exact ⟨hc1, hc2, Nat.le_of_ble_eq_true b1, Nat.le_of_ble_eq_true b2, .inl ((blt_iff _ _).1 b3)⟩
                · cases h
              · cases h
            · cases h
          · cases h
        · rename_i cs off
          split at h
          · rename_i el hel
            obtain ⟨_, _, h3, _⟩ := hte _ el hel
            split at h
            · rename_i b0
              obtain ⟨c1, l, hl, hc1, h⟩ := xbound_sound h
              obtain ⟨c2, q, hh, hc2, h⟩ := xbound_sound h
              split at h
              · rename_i b1
                split at h
                · rename_i b2
                  split at h
                  · rename_i b3
                    split at h
                    · rename_i b4
                      refine ⟨_, _, by simp only [aSlice, h1, h3, hl, hh]; rfl, ?_, h⟩
                      exact ⟨Nat.eq_of_beq_eq_true b0, hc1, hc2, Nat.le_of_ble_eq_true b1, Nat.le_of_ble_eq_true b2, Nat.le_of_ble_eq_true b4, .inl ((blt_iff _ _).1 b3)⟩
                    · cases h
                  · cases h
                · cases h
              · cases h
            · cases h
          · cases h
        · cases h
      · cases h
    · cases h
  · cases h

noncomputable def xlen (te : Tr TI) (t : TypeId) (x : AV) (k : AV → Option β) : Option β := match te.get t with
  | some ti => match ti.und with
    | .slice _ => match x with
      | .sl _ _ len _ => k (.c (.int .i64 (.ofNat len)))
      | .bs _ _ len _ _ => k (.c (.int .i64 (.ofNat len)))
      | .isl es => lenK es 0 fun n => k (.c (.int .i64 (.ofNat n)))
      | .zs => k (.c (.int .i64 (.ofNat 0)))
      | .c (.slice none 0 0) => k (.c (.int .i64 (.ofNat 0)))
      | _ => none
    | _ => none
  | none => none
theorem xlen_sound (hte : TEok P te) {t : TypeId} {x : AV} {k : AV → Option β} {r : β} (h : xlen te t x k = some r) : ∃ n, aLen P t x = some n ∧ k (.c (.int .i64 n)) = some r := by
  unfold xlen at h
  simp only [lenK_eq, Nat.zero_add] at h
  split at h
  · rename_i ti hti
    obtain ⟨h1, _⟩ := hte _ ti hti
    split at h
    · rename_i elem hu
      rw [hu] at h1
      split at h <;> first
        | (cases h; done)
        | exact ⟨_, by simp only [aLen, h1]; rfl, h⟩
    · cases h
  · cases h
end
end Go.Ab
