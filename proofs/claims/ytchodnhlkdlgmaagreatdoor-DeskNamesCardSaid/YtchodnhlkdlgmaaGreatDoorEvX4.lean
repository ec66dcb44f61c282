/-
  All operations in one, as the kernel carries them out.
-/
import Derived.Test.YtchodnhlkdlgmaaGreatDoorEvX4b
set_option linter.unusedVariables false
set_option linter.unusedSimpArgs false
namespace Go.Ab
section
variable {β : Type} {P : Program} {te : Tr TI} {G : Gl}

noncomputable def xbinB (te : Tr TI) (op : BinOp) (t : TypeId) (x y : AV) (k : AV → Option β) : Option β := avBool x (xbinAgg te op t x y k) fun a => avBool y none fun b => match te.get t with
      | some i => match i.und with
        | .bool => match op with
          | .eql => fcB (xbeq a b) fun r => k (.c (.bool r))
          | .neq => fcB (xnot (xbeq a b)) fun r => k (.c (.bool r))
          | _ => none
        | _ => none
      | none => none
noncomputable def xbin (te : Tr TI) (op : BinOp) (t : TypeId) (x y : AV) (k : AV → Option β) : Option β :=
  avInt x (xbinB te op t x y k) fun kd a => avInt y none fun yk b => xBinI op kd a yk b fun v => k (.c v)
theorem xbin_sound (hte : TEok P te) {op : BinOp} {t : TypeId} {x y : AV} {k : AV → Option β} {r : β} (h : xbin te op t x y k = some r) :
    ∃ (c : Prop) (v : AV), aBin P op t x y = some (c, v) ∧ c ∧ k v = some r := by
  have hx : (∃ kd a, x = .c (.int kd a) ∧ (avInt y none fun yk b => xBinI op kd a yk b fun v => k (.c v)) = some r) ∨ (xbinB te op t x y k = some r ∧ ∀ kd a, x ≠ .c (.int kd a)) := by
    unfold xbin at h
    cases x <;> first
      | exact .inr ⟨h, fun _ _ h => (by cases h)⟩
      | (rename_i v
         cases v <;> first
           | exact .inl ⟨_, _, rfl, h⟩
           | exact .inr ⟨h, fun _ _ h => (by cases h)⟩)
  clear h
  rcases hx with ⟨kd, a, rfl, h⟩ | ⟨h, hnotint⟩
  · obtain ⟨yk, b, rfl, h0⟩ := avInt_sound h
    obtain ⟨C, v, h1, h2, h3⟩ := xBinI_sound h0
    exact ⟨C, .c v, by simp only [aBin, h1]; rfl, h2, h3⟩
  · have hb : (∃ a, x = .c (.bool a) ∧ (avBool y none fun b => match te.get t with
        | some i => match i.und with
          | .bool => match op with
            | .eql => fcB (xbeq a b) fun r => k (.c (.bool r))
            | .neq => fcB (xnot (xbeq a b)) fun r => k (.c (.bool r))
            | _ => none
          | _ => none
        | none => none) = some r) ∨ (xbinAgg te op t x y k = some r ∧ (∀ a, x ≠ .c (.bool a)) ∧ (∀ kd a, x ≠ .c (.int kd a))) ∨ ∃ kd a, x = .c (.int kd a) := by
      unfold xbinB at h
      cases x <;> first
        | exact .inr (.inl ⟨h, fun _ h => (by cases h), fun _ _ h => (by cases h)⟩)
        | (rename_i v
           cases v <;> first
             | exact .inr (.inr ⟨_, _, rfl⟩)
             | exact .inl ⟨_, rfl, h⟩
             | exact .inr (.inl ⟨h, fun _ h => (by cases h), fun _ _ h => (by cases h)⟩))
    have hni : ∀ kd a, x ≠ .c (.int kd a) := hnotint
    clear h
    rcases hb with ⟨a, rfl, h⟩ | ⟨h, h2, h3⟩ | ⟨kd, a, rfl⟩
    · obtain ⟨b, rfl, h⟩ := avBool_sound h
      split at h
      · rename_i i hi
        obtain ⟨h1, _⟩ := hte _ i hi
        split at h
        · rename_i hu
          rw [hu] at h1
          simp only [fcB_eq, xbeq_eq, xnot_eq] at h
          split at h
          · exact ⟨_, _, by simp only [aBin, h1], trivial, h⟩
          · exact ⟨_, _, by simp only [aBin, h1]; rfl, trivial, h⟩
          · cases h
        · cases h
      · cases h
    · obtain ⟨v, h4, h5⟩ := xbinAgg_sound hte h
      refine ⟨True, v, ?_, trivial, h5⟩
      have e : aBin P op t x y = aBinAgg P op t x y := by
        unfold aBin
        split
        · exact absurd rfl (h3 _ _)
        · exact absurd rfl (h2 _)
        · rfl
      rw [e]; exact h4
    · exact absurd rfl (hni kd a)

def isIface (d : TypeDesc) : Bool := match d with
  | .interface _ => true
  | _ => false

noncomputable def xoMove (x : Operand) (te : Tr TI) (G : Gl) (ts : TT) (H : Hp) (k : AV → Hp → Option β) : Option β := xev ts x fun v => k v H
noncomputable def xoAssign (x : Operand) (te : Tr TI) (G : Gl) (ts : TT) (H : Hp) (k : AV → Hp → Option β) : Option β := xev ts x fun v => k v H
noncomputable def xoPick (c a b : Operand) (te : Tr TI) (G : Gl) (ts : TT) (H : Hp) (k : AV → Hp → Option β) : Option β := xlz ts c fun c => match c with
    | .c (.bool t) => match t with
      | true => xev ts a fun v => k v H
      | false => xev ts b fun v => k v H
    | _ => none
noncomputable def xoAlloc (t : TypeId) (te : Tr TI) (G : Gl) (ts : TT) (H : Hp) (k : AV → Hp → Option β) : Option β := match te.get t with
    | some i => match i.zc with
      | some cs => fcN H.n fun n => H.pushK (.cells cs) fun H' => k (.ptr n 0) H'
      | none => none
    | none => none
noncomputable def xoBox (x : Operand) (te : Tr TI) (G : Gl) (ts : TT) (H : Hp) (k : AV → Hp → Option β) : Option β := xev ts x fun v => match xisEl v with
    | true => xcells v fun cs => fcN H.n fun n => H.pushK (.cells cs) fun H' => k (.ptr n 0) H'
    | false => none
noncomputable def xoLoad (t : TypeId) (a : Operand) (te : Tr TI) (G : Gl) (ts : TT) (H : Hp) (k : AV → Hp → Option β) : Option β := xlz ts a fun a => xload te G t a H fun v => k v H
noncomputable def xoStore (t : TypeId) (a x : Operand) (te : Tr TI) (G : Gl) (ts : TT) (H : Hp) (k : AV → Hp → Option β) : Option β := xlz ts a fun a => xev ts x fun v => xstore te t a v H fun H' => k .un H'
noncomputable def xoNil (x : Operand) (te : Tr TI) (G : Gl) (ts : TT) (H : Hp) (k : AV → Hp → Option β) : Option β := xev ts x fun v => match xnonNil v with
    | true => k v H
    | false => none
noncomputable def xoBin (op : BinOp) (t : TypeId) (x y : Operand) (te : Tr TI) (G : Gl) (ts : TT) (H : Hp) (k : AV → Hp → Option β) : Option β := xlz ts x fun x => xlz ts y fun y => xbin te op t x y fun v => k v H
noncomputable def xoUn (op : UnOp) (x : Operand) (te : Tr TI) (G : Gl) (ts : TT) (H : Hp) (k : AV → Hp → Option β) : Option β := xev ts x fun x => match op with
    | .not => match x with
      | .c (.bool b) => fcB (xnot b) fun b => k (.c (.bool b)) H
      | _ => none
    | .neg => match x with
      | .c (.int kd n) => fcI (xwrap kd (Int.sub 0 n)) fun n => k (.c (.int kd n)) H
      | _ => none
    | _ => none
noncomputable def xoConv (s t : TypeId) (x : Operand) (te : Tr TI) (G : Gl) (ts : TT) (H : Hp) (k : AV → Hp → Option β) : Option β := xev ts x fun x => match x with
    | .c (.int _ n) => match te.get s with
      | some _ => match te.get t with
        | some i => match i.und with
          | .int kd => fcI (xwrap kd n) fun n => k (.c (.int kd n)) H
          | _ => none
        | none => none
      | none => none
    | _ => none
noncomputable def xoIface (t : TypeId) (x : Operand) (te : Tr TI) (G : Gl) (ts : TT) (H : Hp) (k : AV → Hp → Option β) : Option β := match te.get t with
    | some i => match isIface i.und with
      | true => none
      | false => xev ts x fun x => k (.ifc t x) H
    | none => none
noncomputable def xoFunc (fn : Fn) (first caps : Array Operand) (te : Tr TI) (G : Gl) (ts : TT) (H : Hp) (k : AV → Hp → Option β) : Option β := match fn with
    | .func f => xevs ts first.toList fun fs => xevs ts caps.toList fun cs => k (.fn f fs cs) H
    | _ => none
noncomputable def xoFieldAddr (s : TypeId) (x : Operand) (f : Nat) (te : Tr TI) (G : Gl) (ts : TT) (H : Hp) (k : AV → Hp → Option β) : Option β := xlz ts x fun x => xfieldAddr te s x f fun v => k v H
noncomputable def xoIdxAddr (t : TypeId) (x i : Operand) (te : Tr TI) (G : Gl) (ts : TT) (H : Hp) (k : AV → Hp → Option β) : Option β := xev ts x fun x => xlz ts i fun i => avInt i none fun _ n => xidxAddr te t x n H fun v => k v H
noncomputable def xoIdx (t : TypeId) (x i : Operand) (te : Tr TI) (G : Gl) (ts : TT) (H : Hp) (k : AV → Hp → Option β) : Option β := xev ts x fun x => xlz ts i fun i => avInt i none fun _ n => xidx te t x n fun v => k v H
noncomputable def xoField (t : TypeId) (x : Operand) (f : Nat) (te : Tr TI) (G : Gl) (ts : TT) (H : Hp) (k : AV → Hp → Option β) : Option β := xev ts x fun x => xfield te t x f fun v => k v H
noncomputable def xoExtract (x : Operand) (i : Nat) (te : Tr TI) (G : Gl) (ts : TT) (H : Hp) (k : AV → Hp → Option β) : Option β := xev ts x fun x => match x with
    | .tup vs => match lget vs i with
      | some v => fcT v fun v => k v H
      | none => none
    | _ => none
noncomputable def xoBuild (t : TypeId) (parts : Array (Nat × Operand)) (te : Tr TI) (G : Gl) (ts : TT) (H : Hp) (k : AV → Hp → Option β) : Option β := xevp ts parts.toList fun ps => xbuild te t ps fun v => k v H
noncomputable def xoBuildSlice (t : TypeId) (len : Nat) (parts : Array (Nat × Operand)) (te : Tr TI) (G : Gl) (ts : TT) (H : Hp) (k : AV → Hp → Option β) : Option β := xevp ts parts.toList fun ps => match te.get t with
    | some i => match i.und with
      | .slice elem => match te.get elem with
        | some el => match el.ze with
          | some z => xcells z fun zc => lenK zc 0 fun sz => match Nat.ble (Nat.mul len sz) 16777216 with
            | true => repK z len fun es0 => xfillEs len sz es0 ps fun es => fcN H.n fun n => H.pushK (.arr sz es) fun H' => fcT (slv n len) fun v => k v H'
            | false => none
          | none => none
        | none => none
      | _ => none
    | none => none
noncomputable def xoMakeSlice (t : TypeId) (l c : Operand) (te : Tr TI) (G : Gl) (ts : TT) (H : Hp) (k : AV → Hp → Option β) : Option β := xev ts l fun l => xev ts c fun c => match l with
    | .c (.int _ n) => match c with
      | .c (.int _ m) => match te.get t with
        | some i => match i.und with
          | .slice elem => match te.get elem with
            | some el => match el.ze with
              | some z => toNatK n fun n => match ieq (.ofNat n) m with
                | true => match Nat.ble (Nat.mul el.byt n) 1099511627776 with
                  | true => match Nat.ble n 1099511627776 with
                    | true => xcells z fun zc => lenK zc 0 fun sz => repK z n fun es => fcN H.n fun id => H.pushK (.arr sz es) fun H' => fcT (slv id n) fun v => k v H'
                    | false => none
                  | false => none
                | false => none
              | none => none
            | none => none
          | _ => none
        | none => none
      | _ => none
    | _ => none
noncomputable def xoSlice (t : TypeId) (x : Operand) (lo hi mx : Option Operand) (te : Tr TI) (G : Gl) (ts : TT) (H : Hp) (k : AV → Hp → Option β) : Option β := xev ts x fun x => xslice te t x H (lo.map (ev ts.get)) (hi.map (ev ts.get)) (mx.map (ev ts.get)) fun v => k v H
noncomputable def xoLen (args : Array Operand) (argTypes : Array TypeId) (te : Tr TI) (G : Gl) (ts : TT) (H : Hp) (k : AV → Hp → Option β) : Option β := match lget argTypes.toList 0 with
    | some t => match lget args.toList 0 with
      | some x => xev ts x fun x => xlen te t x fun v => k v H
      | none => none
    | none => none

noncomputable def xopB (op : Op) : Bx (XA β) :=
  match op with
    | .move x => .bx (xoMove x)
    | .assign x => .bx (xoAssign x)
    | .pick c a b => .bx (xoPick c a b)
    | .alloc t => .bx (xoAlloc t)
    | .box _ x => .bx (xoBox x)
    | .load t a => .bx (xoLoad t a)
    | .store t a x => .bx (xoStore t a x)
    | .nilCheck x => .bx (xoNil x)
    | .binOp op t x y _ => .bx (xoBin op t x y)
    | .unOp op _ x => .bx (xoUn op x)
    | .convert s t x => .bx (xoConv s t x)
    | .makeInterface t x => .bx (xoIface t x)
    | .makeFunc fn first caps => .bx (xoFunc fn first caps)
    | .fieldAddr s x f => .bx (xoFieldAddr s x f)
    | .indexAddr t x i => .bx (xoIdxAddr t x i)
    | .index t x i => .bx (xoIdx t x i)
    | .field t x f => .bx (xoField t x f)
    | .extract x i => .bx (xoExtract x i)
    | .build t parts => .bx (xoBuild t parts)
    | .buildSlice t len parts => .bx (xoBuildSlice t len parts)
    | .makeSlice t l c => .bx (xoMakeSlice t l c)
    | .slice t x lo hi mx => .bx (xoSlice t x lo hi mx)
    | .call { callee := .builtin .len, args, argTypes } => .bx (xoLen args argTypes)
    | op => xopB2 op
noncomputable def xop (te : Tr TI) (G : Gl) (op : Op) (ts : TT) (H : Hp) (k : AV → Hp → Option β) : Option β := Bx.casesOn (motive := fun _ => Option β) (xopB (β := β) op) (fun g => g te G ts H k)

theorem xop_sound (hte : TEok P te) {op : Op} {ts : TT} {H : Hp} {k : AV → Hp → Option β} {r : β} (h : xop te G op ts H k = some r) :
    ∃ (ar : AR) (H' : Hp), aop P G op (ev ts.get) H.abs = some ar ∧ ar.c ∧ ar.H = H'.abs ∧ k ar.v H' = some r := by
  unfold xop xopB at h
  split at h <;> try simp only [xlz_eq, xoMove, xoAssign, xoPick, xoAlloc, xoBox, xoLoad, xoStore, xoNil, xoBin, xoUn, xoConv, xoIface, xoFunc, xoFieldAddr, xoIdxAddr, xoIdx, xoField, xoExtract, xoBuild, xoBuildSlice, xoMakeSlice, xoSlice, xoLen, xev_eq, xevs_eq, xevp_eq, fcN_eq, fcB_eq, fcI_eq, fcT_eq, xcells_eq, lenK_eq, Nat.zero_add, Hp.pushK_eq, repK_eq, lget_eq, Array.getElem?_toList, xnot_eq, xwrap_eq, xisEl_eq, xnonNil_eq] at h
  · exact ⟨_, H, rfl, trivial, rfl, h⟩
  · exact ⟨_, H, rfl, trivial, rfl, h⟩
  · split at h
    · rename_i t hc
      refine ⟨_, H, by simp only [aop, hc]; rfl, trivial, rfl, ?_⟩
      split at h <;> exact h
    · cases h
  · split at h
    · rename_i i hi
      obtain ⟨_, _, _, _, h5, _⟩ := hte _ i hi
      split at h
      · rename_i cs hcs
        rw [hcs] at h5
        exact ⟨_, _, by simp only [aop, h5]; rfl, trivial, by rw [Hp.abs_push], by rw [Hp.abs_length]; exact h⟩
      · cases h
    · cases h
  · split at h
    · rename_i he
      exact ⟨_, _, by simp only [aop, he, if_true]; rfl, trivial, by rw [Hp.abs_push], by rw [Hp.abs_length]; exact h⟩
    · cases h
  · obtain ⟨v, h1, h2⟩ := xload_sound hte h
    exact ⟨_, H, by simp only [aop, h1]; rfl, trivial, rfl, h2⟩
  · obtain ⟨H', h1, h2⟩ := xstore_sound hte h
    exact ⟨_, H', by simp only [aop, h1]; rfl, trivial, rfl, h2⟩
  · split at h
    · rename_i he
      exact ⟨_, H, by simp only [aop, he, if_true]; rfl, trivial, rfl, h⟩
    · cases h
  · obtain ⟨c, v, h1, h2, h3⟩ := xbin_sound hte h
    exact ⟨_, H, by simp only [aop, h1]; rfl, h2, rfl, h3⟩
  · split at h
    · split at h
      · rename_i b hb
        exact ⟨_, H, by simp only [aop, hb]; rfl, trivial, rfl, h⟩
      · cases h
    · split at h
      · rename_i kd n hb
        exact ⟨_, H, by simp only [aop, hb]; rfl, trivial, rfl, h⟩
      · cases h
    · cases h
  · split at h
    · rename_i kd n hx
      split at h
      · rename_i i0 hs
        obtain ⟨h0, _⟩ := hte _ _ hs
        split at h
        · rename_i i hi
          obtain ⟨h1, _⟩ := hte _ i hi
          split at h
          · rename_i kd hu
            rw [hu] at h1
            exact ⟨_, H, by simp only [aop, hx, h0, h1]; rfl, trivial, rfl, h⟩
          · cases h
        · cases h
      · cases h
    · cases h
  · split at h
    · rename_i i hi
      obtain ⟨h1, _⟩ := hte _ i hi
      split at h
      · cases h
      · rename_i hne
        refine ⟨⟨True, .ifc _ _, H.abs⟩, H, ?_, trivial, rfl, h⟩
        simp only [aop, h1]
        cases hu : i.und <;> first
          | rfl
          | (rw [hu] at hne; cases hne)
    · cases h
  · split at h
    · exact ⟨_, H, rfl, trivial, rfl, h⟩
    · cases h
  · obtain ⟨o, v, h1, h2, h3⟩ := xfieldAddr_sound hte h
    exact ⟨_, H, by simp only [aop, h1, h2]; rfl, trivial, rfl, h3⟩
  · obtain ⟨kd, n, hi, h⟩ := avInt_sound h
    obtain ⟨c, v, h1, h2, h3⟩ := xidxAddr_sound hte h
    exact ⟨_, H, by simp only [aop, aInt, hi, h1]; rfl, h2, rfl, h3⟩
  · obtain ⟨kd, n, hi, h⟩ := avInt_sound h
    obtain ⟨c, v, h1, h2, h3⟩ := xidx_sound hte h
    exact ⟨_, H, by simp only [aop, aInt, hi, h1]; rfl, h2, rfl, h3⟩
  · obtain ⟨v, h1, h2⟩ := xfield_sound hte h
    exact ⟨_, H, by simp only [aop, h1]; rfl, trivial, rfl, h2⟩
  · split at h
    · rename_i vs hvs
      split at h
      · rename_i v hv
        exact ⟨_, H, by simp only [aop, hvs, hv]; rfl, trivial, rfl, h⟩
      · cases h
    · cases h
  · obtain ⟨v, h1, h2⟩ := xbuild_sound hte h
    exact ⟨_, H, by simp only [aop, h1]; rfl, trivial, rfl, h2⟩
  · split at h
    · rename_i i hi
      obtain ⟨h1, _⟩ := hte _ i hi
      split at h
      · rename_i elem hu
        rw [hu] at h1
        split at h
        · rename_i el hel
          obtain ⟨_, _, _, _, _, h6, _⟩ := hte _ el hel
          split at h
          · rename_i z hz
            rw [hz] at h6
            split at h
            · rename_i hb
              obtain ⟨es, h7, h8⟩ := xfillEs_sound h
              exact ⟨_, _, by simp only [aop, h1, h6]; rw [if_pos (by have := Nat.le_of_ble_eq_true hb; simpa using this), h7]; rfl, trivial, by rw [Hp.abs_push], by rw [Hp.abs_length]; exact h8⟩
            · cases h
          · cases h
        · cases h
      · cases h
    · cases h
  · split at h
    · rename_i k1 n hl
      split at h
      · rename_i k2 m hc
        split at h
        · rename_i i hi
          obtain ⟨h1, _⟩ := hte _ i hi
          split at h
          · rename_i elem hu
            rw [hu] at h1
            split at h
            · rename_i el hel
              obtain ⟨_, _, _, h5, _, h6, _⟩ := hte _ el hel
              split at h
              · rename_i z hz
                rw [hz] at h6
                have h9 := toNatK_sound h
                clear h
                obtain ⟨h0, n, rfl, hn, h⟩ := h9
                split at h
                · rename_i e1
                  split at h
                  · rename_i e2
                    split at h
                    · rename_i e3
                      rw [ieq_eq] at e1
                      have e1' : (n : Int) = m := by simpa using e1
                      have e2' := Nat.le_of_ble_eq_true e2
                      have e3' := Nat.le_of_ble_eq_true e3
                      have e2'' : ((el.byt : Int) * (n : Int)) ≤ 1099511627776 := by
                        have e4 : (el.byt * n : Nat) ≤ 1099511627776 := e2'
                        have e5 : ((el.byt * n : Nat) : Int) ≤ ((1099511627776 : Nat) : Int) := Int.ofNat_le.2 e4
                        rw [Int.natCast_mul] at e5
                        exact e5
                      refine ⟨_, H.push (.arr z.cells.length (List.replicate n z)), by simp only [aop, aInt, h1, hl, hc, h5, h6]; rfl, ?_, by rw [Hp.abs_push]; simp, by rw [Hp.abs_length]; simpa using h⟩
                      exact ⟨h0, e1', e2'', by show (n : Int) ≤ 1099511627776; omega⟩
                    · cases h
                  · cases h
                · cases h
              · cases h
            · cases h
          · cases h
        · cases h
      · cases h
    · cases h
  · obtain ⟨c, v, h1, h2, h3⟩ := xslice_sound hte h
    exact ⟨_, H, by simp only [aop, h1]; rfl, h2, rfl, h3⟩
  · split at h
    · rename_i t ht
      split at h
      · rename_i x hx
        obtain ⟨n, h1, h2⟩ := xlen_sound hte h
        exact ⟨_, H, by simp only [aop, ht, hx, h1]; rfl, trivial, rfl, h2⟩
      · cases h
    · cases h
  · exact xopB2_sound hte h
end
end Go.Ab
