/-
  Maps as the kernel carries them out; the operations beside the first ones, in one.
-/
import Derived.Test.YtkagodjlajednaaGreatEvX4a
set_option linter.unusedVariables false
set_option linter.unusedSimpArgs false
namespace Go.Ab
section
variable {β : Type} {P : Program} {te : Tr TI} {G : Gl}

/-! ### Equality of values, cell by cell -/

def veq : Value → Value → Bool
  | .int k a, .int k' b => match Nat.beq (knum k) (knum k') with
    | true => ieq a b
    | false => false
  | .bool a, .bool b => xbeq a b
  | _, _ => false
theorem veq_sound {a b : Value} (h : veq a b = true) : a = b := by
  unfold veq at h
  split at h
  · split at h
    · rename_i hk
      obtain rfl := knum_eq hk
      rw [ieq_eq] at h
      have := eq_of_beq h
      subst this; rfl
    · cases h
  · rw [xbeq_eq] at h
    have := eq_of_beq h
    subst this; rfl
  · cases h
def ceq : AV → AV → Bool
  | .c a, .c b => veq a b
  | _, _ => false
theorem ceq_sound {a b : AV} (h : ceq a b = true) : a = b ∧ flatC a = true := by
  unfold ceq at h
  split at h
  · rename_i a b
    have h1 := veq_sound h
    subst h1
    refine ⟨rfl, ?_⟩
    unfold veq at h
    split at h <;> first
      | rfl
      | (cases h; done)
  · cases h
def ceqL : List AV → List AV → Bool
  | [], [] => true
  | a :: l, b :: m => xand (ceq a b) (ceqL l m)
  | _, _ => false
theorem ceqL_sound : ∀ {l m : List AV}, ceqL l m = true → l = m ∧ l.all flatC = true
  | [], [], _ => ⟨rfl, rfl⟩
  | a :: l, b :: m, h => by
    simp only [ceqL, xand_eq, Bool.and_eq_true] at h
    obtain ⟨h1, h2⟩ := ceq_sound h.1
    obtain ⟨h3, h4⟩ := ceqL_sound h.2
    exact ⟨by rw [h1, h3], by simp [h2]; simpa using h4⟩
  | [], _ :: _, h => by cases h
  | _ :: _, [], h => by cases h
/-- Flat values that are the same. -/
def feq (a b : AV) : Bool := match a with
  | .agg l => match b with
    | .agg m => ceqL l m
    | _ => false
  | a => ceq a b
theorem feq_sound {a b : AV} (h : feq a b = true) : a = b ∧ flatA a = true := by
  unfold feq at h
  split at h
  · split at h
    · obtain ⟨h1, h2⟩ := ceqL_sound h
      exact ⟨by rw [h1], h2⟩
    · cases h
  · rename_i hne
    obtain ⟨h1, h2⟩ := ceq_sound h
    exact ⟨h1, by cases a <;> first | exact h2 | exact absurd rfl (hne _)⟩

/-- Values that are the same. -/
def vq : Value → Value → Bool
  | .slice none 0 0, .slice none 0 0 => true
  | .pointer none, .pointer none => true
  | .map none, .map none => true
  | .nilFunc, .nilFunc => true
  | .nilIface, .nilIface => true
  | a, b => veq a b
theorem vq_sound {a b : Value} (h : vq a b = true) : a = b := by
  unfold vq at h
  split at h <;> first
    | rfl
    | exact veq_sound h
mutual
def aeq : AV → AV → Bool
  | .c a, .c b => vq a b
  | .agg l, .agg m => aeqL l m
  | .tup l, .tup m => aeqL l m
  | .isl l, .isl m => aeqL l m
  | .zs, .zs => true
  | _, _ => false
def aeqL : List AV → List AV → Bool
  | [], [] => true
  | a :: l, b :: m => xand (aeq a b) (aeqL l m)
  | _, _ => false
end
mutual
theorem aeq_sound : ∀ {a b : AV}, aeq a b = true → a = b := by
  intro a b h
  unfold aeq at h
  split at h
  · rw [vq_sound h]
  · rw [aeqL_sound h]
  · rw [aeqL_sound h]
  · rw [aeqL_sound h]
  · rfl
  · cases h
theorem aeqL_sound : ∀ {l m : List AV}, aeqL l m = true → l = m := by
  intro l m h
  unfold aeqL at h
  split at h
  · rfl
  · rw [xand_eq, Bool.and_eq_true] at h
    rw [aeq_sound h.1, aeqL_sound h.2]
  · cases h
end

noncomputable def xnext (x : AV) (H : Hp) (k : Nat → Nat → Nat → List Nat → Nat → List (Nat × AV × AV) → Option β) : Option β := match x with
  | .ptr id 0 => match H.get id with
    | some (.mit mid since seen stepped) => match H.get mid with
      | some (.map es clock) => match es.all (fun e => Nat.blt e.1 since) with
        | true => match Nat.ble since stepped with
          | true => fcL (nextCands es seen) fun cs => k id mid since seen clock cs
          | false => none
        | false => none
      | _ => none
    | _ => none
  | _ => none
theorem xnext_sound {x : AV} {H : Hp} {k : Nat → Nat → Nat → List Nat → Nat → List (Nat × AV × AV) → Option β} {r : β} (h : xnext x H k = some r) :
    ∃ id mid since seen clock cands, aNext x H.abs = some (id, mid, since, seen, clock, cands) ∧ k id mid since seen clock cands = some r := by
  unfold xnext at h
  simp only [Hp.get_eq, fcL_eq] at h
  split at h
  · split at h
    · rename_i mid since seen stepped ho
      split at h
      · rename_i es clock hm
        split at h
        · rename_i q1
          split at h
          · rename_i q2
            refine ⟨_, _, _, _, _, _, ?_, h⟩
            simp only [aNext, ho, hm]
            refine if_pos ⟨?_, Nat.le_of_ble_eq_true q2⟩
            rw [List.all_eq_true] at q1 ⊢
            intro e he
            have := (blt_iff _ _).1 (q1 e he)
            simpa using this
          · cases h
        · cases h
      · cases h
    · cases h
  · cases h

/-! ### Keys -/

noncomputable def xckF (te : Tr TI) (rec : TypeId → AV → Bool) (cs : List AV) : List Field → Bool
  | [] => true
  | f :: fs => xand (match f.name == "_" with
    | true => true
    | false => match xpart te f.type cs f.offset some with
      | some a => rec f.type a
      | none => false) (xckF te rec cs fs)
noncomputable def xckA (te : Tr TI) (rec : AV → Bool) (elem : TypeId) (n : Nat) (cs : List AV) (i : Nat) : Nat → Bool
  | 0 => true
  | m + 1 => xand (match xpart te elem cs (Nat.mul i n) some with
    | some a => rec a
    | none => false) (xckA te rec elem n cs (Nat.succ i) m)
noncomputable def xckD (te : Tr TI) (rec : TypeId → AV → Bool) (u : TypeDesc) (x : AV) : Bool := match u with
  | .struct fs => match x with
    | .agg cs => xckF te rec cs fs.toList
    | _ => false
  | .array len elem => match x with
    | .agg cs => match te.get elem with
      | some el => xckA te (rec elem) elem el.sz cs 0 len
      | none => false
    | _ => false
  | .bool => avBool x false fun _ => true
  | .int _ => avInt x false fun _ _ => true
  | _ => false
noncomputable def xck (te : Tr TI) (d : Nat) : TypeId → AV → Bool :=
  Nat.rec (motive := fun _ => TypeId → AV → Bool) (fun _ _ => false)
    (fun _ ih t x => match te.get t with
      | some i => xckD te ih i.und x
      | none => false) d

theorem xckF_sound (hte : TEok P te) {d : Nat} (ih : ∀ {t : TypeId} {x : AV}, xck te d t x = true → ckOk P d t x = true) {cs : List AV} : ∀ {fs : List Field}, xckF te (xck te d) cs fs = true → ckF P (ckOk P d) cs fs = true
  | [], _ => rfl
  | f :: fs, h => by
    simp only [xckF, xand_eq, Bool.and_eq_true] at h
    simp only [ckF, Bool.and_eq_true]
    refine ⟨?_, xckF_sound hte ih h.2⟩
    have h1 := h.1
    split at h1
    · rename_i hn; simp [hn]
    · split at h1
      · rename_i a ha
        obtain ⟨v, h2, h3⟩ := xpart_sound hte ha
        cases h3
        rw [h2]
        show (f.name == "_" || ckOk P d f.type a) = true
        rw [ih h1]; simp
      · cases h1
theorem xckA_sound (hte : TEok P te) {d : Nat} {elem : TypeId} {n : Nat} (ih : ∀ {x : AV}, xck te d elem x = true → ckOk P d elem x = true) {cs : List AV} : ∀ {m i : Nat}, xckA te (xck te d elem) elem n cs i m = true → ckA P (ckOk P d elem) elem n cs i m = true
  | 0, i, _ => rfl
  | m + 1, i, h => by
    simp only [xckA, xand_eq, Bool.and_eq_true] at h
    simp only [ckA, Bool.and_eq_true]
    refine ⟨?_, xckA_sound hte ih h.2⟩
    have h1 := h.1
    split at h1
    · rename_i a ha
      obtain ⟨v, h2, h3⟩ := xpart_sound hte ha
      cases h3
      have h2' : aPart P elem cs (i * n) = some a := h2
      rw [h2']
      exact ih h1
    · cases h1
theorem xck_sound (hte : TEok P te) : ∀ {d : Nat} {t : TypeId} {x : AV}, xck te d t x = true → ckOk P d t x = true
  | 0, t, x, h => by cases h
  | d + 1, t, x, h => by
    replace h : (match te.get t with
      | some i => xckD te (xck te d) i.und x
      | none => false) = true := h
    split at h
    · rename_i i hi
      obtain ⟨h1, _⟩ := hte _ i hi
      unfold xckD at h
      split at h
      · rename_i fs hu
        rw [hu] at h1
        split at h
        · simp only [ckOk, h1]
          exact xckF_sound hte (fun h => xck_sound hte h) h
        · cases h
      · rename_i len elem hu
        rw [hu] at h1
        split at h
        · split at h
          · rename_i el hel
            obtain ⟨_, _, h3, _⟩ := hte _ el hel
            simp only [ckOk, h1, h3]
            exact xckA_sound hte (fun h => xck_sound hte h) h
          · cases h
        · cases h
      · rename_i hu
        rw [hu] at h1
        cases x <;> first
          | (cases h; done)
          | (rename_i v
             cases v <;> first
               | (cases h; done)
               | simp only [ckOk, h1])
      · rename_i hu
        rw [hu] at h1
        cases x <;> first
          | (cases h; done)
          | (rename_i v
             cases v <;> first
               | (cases h; done)
               | simp only [ckOk, h1])
      · cases h
    · cases h

noncomputable def xfind (te : Tr TI) (kt : TypeId) (k : AV) : List (Nat × AV × AV) → Nat → (Option Nat → Option β) → Option β
  | [], _, K => K none
  | e :: es, i, K => match e with
    | (_, k2, _) => match xeq te 10000 kt k k2 with
      | some b => match b with
        | true => K (some i)
        | false => fcN (Nat.succ i) fun i => xfind te kt k es i K
      | none => none
theorem xfind_sound (hte : TEok P te) {kt : TypeId} {k : AV} : ∀ {es : List (Nat × AV × AV)} {i : Nat} {K : Option Nat → Option β} {r : β}, xfind te kt k es i K = some r → ∃ o, aFind P kt k es = some o ∧ K (o.map (· + i)) = some r
  | [], i, K, r, h => ⟨none, rfl, h⟩
  | (b0, k2, v2) :: es, i, K, r, h => by
    simp only [xfind, fcN_eq] at h
    split at h
    · rename_i b hb
      have hb' := xeq_sound hte hb
      split at h
      · exact ⟨some 0, by simp only [aFind, hb'], by simpa using h⟩
      · obtain ⟨o, h1, h2⟩ := xfind_sound hte h
        refine ⟨o.map (· + 1), by simp only [aFind, hb', h1]; rfl, ?_⟩
        rw [← h2]
        cases o <;> simp
        congr 2; omega
    · cases h

noncomputable def xmapUp (te : Tr TI) (t : TypeId) (m k v : AV) (H : Hp) (K : AV → Hp → Option β) : Option β := match te.get t with
  | some i => match i.und with
    | .map kt _ => match m with
      | .mp id => match H.get id with
        | some (.map es clock) => match xck te 10000 kt k with
          | true => match feq k k with
            | true => xfind te kt k es 0 fun o => match o with
              | some j => match lget es j with
                | some e => match e with
                  | (b, k2, _) => match feq k2 k with
                    | true => fcL (es.set j (b, k, v)) fun es' => H.setK id (.map es' clock) fun H => K .un H
                    | false => none
                | none => none
              | none => fcL (es ++ [(clock, k, v)]) fun es' => fcN (Nat.succ clock) fun c' => H.setK id (.map es' c') fun H => K .un H
            | false => none
          | false => none
        | _ => none
      | _ => none
    | _ => none
  | none => none
theorem xmapUp_sound (hte : TEok P te) {t : TypeId} {m k v : AV} {H : Hp} {K : AV → Hp → Option β} {r : β} (h : xmapUp te t m k v H K = some r) :
    ∃ (ar : AR) (H' : Hp), aMapUpdate P t m k v H.abs = some ar ∧ ar.c ∧ ar.H = H'.abs ∧ K ar.v H' = some r := by
  unfold xmapUp at h
  simp only [Hp.get_eq, fcL_eq, fcN_eq, Hp.setK_eq, lget_eq] at h
  split at h
  · rename_i i hi
    obtain ⟨h1, _⟩ := hte _ i hi
    split at h
    · rename_i kt et hu
      rw [hu] at h1
      split at h
      · rename_i id
        split at h
        · rename_i es clock ho
          split at h
          · rename_i hck
            split at h
            · rename_i hf
              obtain ⟨o, h2, h3⟩ := xfind_sound hte h
              clear h
              have hck' := xck_sound hte hck
              have hf' := (feq_sound hf).2
              unfold aMapUpdate
              simp only [h1, ho]
              rw [if_pos ⟨hck', hf'⟩, h2]
              cases o with
              | none => exact ⟨_, _, rfl, trivial, by rw [Hp.abs_set], h3⟩
              | some j =>
                simp only [Option.map_some, Nat.add_zero] at h3
                split at h3
                · rename_i e he
                  obtain ⟨b, k2, v2⟩ := e
                  simp only at h3
                  have hg : es.getD j default = (b, k2, v2) := by simp [List.getD, he]
                  split at h3
                  · rename_i hk
                    have := (feq_sound hk).1
                    exact ⟨_, _, rfl, by rw [hg]; exact this, by rw [Hp.abs_set, hg], h3⟩
                  · cases h3
                · cases h3
            · cases h
          · cases h
        · cases h
      · cases h
    · cases h
  · cases h

noncomputable def xrange (te : Tr TI) (t : TypeId) (x : AV) (H : Hp) (k : AV → Hp → Option β) : Option β := match te.get t with
  | some i => match i.und with
    | .map _ _ => match x with
      | .mp id => match H.get id with
        | some (.map _ clock) => fcN H.n fun id' => H.pushK (.mit id clock [] clock) fun H => k (.ptr id' 0) H
        | _ => none
      | _ => none
    | _ => none
  | none => none
theorem xrange_sound (hte : TEok P te) {t : TypeId} {x : AV} {H : Hp} {k : AV → Hp → Option β} {r : β} (h : xrange te t x H k = some r) :
    ∃ (ar : AR) (H' : Hp), aRange P t x H.abs = some ar ∧ ar.c ∧ ar.H = H'.abs ∧ k ar.v H' = some r := by
  unfold xrange at h
  simp only [Hp.get_eq, fcN_eq, Hp.pushK_eq] at h
  split at h
  · rename_i i hi
    obtain ⟨h1, _⟩ := hte _ i hi
    split at h
    · rename_i kt et hu
      rw [hu] at h1
      split at h
      · split at h
        · rename_i es clock ho
          exact ⟨_, _, by simp only [aRange, h1, ho]; rfl, trivial, by rw [Hp.abs_push], by rw [Hp.abs_length]; exact h⟩
        · cases h
      · cases h
    · cases h
  · cases h

noncomputable def xentry (x : AV) (H : Hp) (k : AV → Hp → Option β) : Option β := match x with
  | .ptr id 0 => match H.get id with
    | some (.mit mid _ seen stepped) => match seen.getLast? with
      | some stamp => match H.get mid with
        | some (.map es clock) => match Nat.beq clock stepped with
          | true => match es.find? (fun e => e.1 == stamp) with
            | some e => match e with
              | (_, a, b) => k (.tup [a, b]) H
            | none => none
          | false => none
        | _ => none
      | none => none
    | _ => none
  | _ => none
theorem xentry_sound {x : AV} {H : Hp} {k : AV → Hp → Option β} {r : β} (h : xentry x H k = some r) :
    ∃ (ar : AR) (H' : Hp), aEntry x H.abs = some ar ∧ ar.c ∧ ar.H = H'.abs ∧ k ar.v H' = some r := by
  unfold xentry at h
  simp only [Hp.get_eq] at h
  split at h
  · split at h
    · rename_i mid q seen stepped ho
      split at h
      · rename_i stamp hl
        split at h
        · rename_i es clock hm
          split at h
          · rename_i hc
            split at h
            · rename_i e he
              obtain ⟨b0, a, b⟩ := e
              exact ⟨_, H, by simp only [aEntry, ho, hl, hm]; rw [if_pos (Nat.eq_of_beq_eq_true hc), he], trivial, rfl, h⟩
            · cases h
          · cases h
        · cases h
      · cases h
    · cases h
  · cases h

/-! ### In one -/

abbrev XA (β : Type) := Tr TI → Gl → TT → Hp → (AV → Hp → Option β) → Option β
noncomputable def xoAppend (args : Array Operand) (tys : Array TypeId) : XA β := fun te _ ts H k => match lget tys.toList 0 with
  | some t => match lget tys.toList 1 with
    | some u => match lget args.toList 0 with
      | some s => match lget args.toList 1 with
        | some x => xev ts s fun s => xev ts x fun x => xappend te t u s x H k
        | none => none
      | none => none
    | none => none
  | none => none
noncomputable def xoClear (args : Array Operand) (tys : Array TypeId) : XA β := fun te _ ts H k => match lget tys.toList 0 with
  | some t => match lget args.toList 0 with
    | some x => xev ts x fun x => xclear te t x H k
    | none => none
  | none => none
noncomputable def xoMakeMap : XA β := fun _ _ _ H k => fcN H.n fun id => H.pushK (.map [] 0) fun H => k (.mp id) H
noncomputable def xoMapUp (t : TypeId) (m k x : Operand) : XA β := fun te _ ts H K => xev ts m fun m => xev ts k fun k => xev ts x fun x => xmapUp te t m k x H K
noncomputable def xoRange (t : TypeId) (x : Operand) : XA β := fun te _ ts H k => xev ts x fun x => xrange te t x H k
noncomputable def xoEntry (x : Operand) : XA β := fun _ _ ts H k => xev ts x fun x => xentry x H k

noncomputable def xopB2 (op : Op) : Bx (XA β) := match op with
  | .call { callee := .builtin .append, args, argTypes } => .bx (xoAppend args argTypes)
  | .call { callee := .builtin .clear, args, argTypes } => .bx (xoClear args argTypes)
  | .makeMap _ none => .bx xoMakeMap
  | .mapUpdate t m k x => .bx (xoMapUp t m k x)
  | .range t x => .bx (xoRange t x)
  | .entry x => .bx (xoEntry x)
  | _ => .bx (fun _ _ _ _ _ => none)

theorem xopB2_sound (hte : TEok P te) {op : Op} {ts : TT} {H : Hp} {k : AV → Hp → Option β} {r : β} (h : Bx.casesOn (motive := fun _ => Option β) (xopB2 (β := β) op) (fun g => g te G ts H k) = some r) :
    ∃ (ar : AR) (H' : Hp), aop P G op (ev ts.get) H.abs = some ar ∧ ar.c ∧ ar.H = H'.abs ∧ k ar.v H' = some r := by
  unfold xopB2 at h
  split at h <;> try simp only [xoAppend, xoClear, xoMakeMap, xoMapUp, xoRange, xoEntry, xev_eq, lget_eq, Array.getElem?_toList, fcN_eq, Hp.pushK_eq] at h
  · split at h
    · rename_i t ht
      split at h
      · rename_i u hu
        split at h
        · rename_i s hs
          split at h
          · rename_i x hx
            obtain ⟨ar, H', h1, h2⟩ := xappend_sound hte h
            exact ⟨ar, H', by simp only [aop, aop2, ht, hu, hs, hx]; exact h1, h2⟩
          · cases h
        · cases h
      · cases h
    · cases h
  · split at h
    · rename_i t ht
      split at h
      · rename_i x hx
        obtain ⟨ar, H', h1, h2⟩ := xclear_sound hte h
        exact ⟨ar, H', by simp only [aop, aop2, ht, hx]; exact h1, h2⟩
      · cases h
    · cases h
  · exact ⟨_, _, rfl, trivial, by rw [Hp.abs_push], by rw [Hp.abs_length]; exact h⟩
  · obtain ⟨ar, H', h1, h2⟩ := xmapUp_sound hte h
    exact ⟨ar, H', by simp only [aop, aop2]; exact h1, h2⟩
  · obtain ⟨ar, H', h1, h2⟩ := xrange_sound hte h
    exact ⟨ar, H', by simp only [aop, aop2]; exact h1, h2⟩
  · obtain ⟨ar, H', h1, h2⟩ := xentry_sound h
    exact ⟨ar, H', by simp only [aop, aop2]; exact h1, h2⟩
  · cases h
end
end Go.Ab
