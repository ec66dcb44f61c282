/-
  Equality, append, clear and maps as the kernel carries them out.
-/
import Derived.Test.YtchodnhlkdlgmaaGreatDoorEvX3
set_option linter.unusedVariables false
set_option linter.unusedSimpArgs false
namespace Go.Ab
section
variable {β : Type} {P : Program} {te : Tr TI} {G : Gl}

/-! ### Equality -/

def xand (a b : Bool) : Bool := match a with
  | true => b
  | false => false
theorem xand_eq (a b : Bool) : xand a b = (a && b) := by cases a <;> rfl

noncomputable def xeqF (te : Tr TI) (rec : TypeId → AV → AV → Option Bool) (xs ys : List AV) : List Field → Option Bool
  | [] => some true
  | f :: fs => match f.name == "_" with
    | true => none
    | false => xpart te f.type xs f.offset fun a => xpart te f.type ys f.offset fun b => match rec f.type a b with
      | some r => match xeqF te rec xs ys fs with
        | some s => some (xand r s)
        | none => none
      | none => none
noncomputable def xeqA (te : Tr TI) (rec : AV → AV → Option Bool) (elem : TypeId) (n : Nat) (xs ys : List AV) (i : Nat) : Nat → Option Bool
  | 0 => some true
  | m + 1 => fcN (Nat.mul i n) fun off => xpart te elem xs off fun a => xpart te elem ys off fun b => match rec a b with
    | some r => fcN (Nat.succ i) fun i => match xeqA te rec elem n xs ys i m with
      | some s => some (xand r s)
      | none => none
    | none => none
noncomputable def xeqD (te : Tr TI) (rec : TypeId → AV → AV → Option Bool) (u : TypeDesc) (held : Bool) (x y : AV) : Option Bool := match u with
  | .struct fs => match x with
    | .agg xs => match y with
      | .agg ys => match held with
        | true => none
        | false => xeqF te rec xs ys fs.toList
      | _ => none
    | _ => none
  | .array len elem => match x with
    | .agg xs => match y with
      | .agg ys => match te.get elem with
        | some el => xeqA te (rec elem) elem el.sz xs ys 0 len
        | none => none
      | _ => none
    | _ => none
  | .bool => avBool x none fun a => avBool y none fun b => some (xbeq a b)
  | .int _ => avInt x none fun k a => avInt y none fun k' b => match Nat.beq (knum k) (knum k') with
    | true => some (ieq a b)
    | false => none
  | _ => none
noncomputable def xeq (te : Tr TI) (d : Nat) : TypeId → AV → AV → Option Bool :=
  Nat.rec (motive := fun _ => TypeId → AV → AV → Option Bool) (fun _ _ _ => none)
    (fun _ ih t x y => match te.get t with
      | some i => xeqD te ih i.und i.held x y
      | none => none) d

theorem xeqF_sound (hte : TEok P te) {d : Nat} (ih : ∀ {t : TypeId} {x y : AV} {b : Bool}, xeq te d t x y = some b → aEq P d t x y = some b) {xs ys : List AV} : ∀ {fs : List Field} {b : Bool}, xeqF te (xeq te d) xs ys fs = some b → aEqF P (aEq P d) xs ys fs = some b
  | [], b, h => h
  | f :: fs, b, h => by
    simp only [xeqF] at h
    split at h
    · cases h
    · rename_i hn
      have hn' : ¬ f.name = "_" := by simpa using hn
      obtain ⟨a, h1, h⟩ := xpart_sound hte h
      obtain ⟨c, h2, h⟩ := xpart_sound hte h
      split at h
      · rename_i r hr
        split at h
        · rename_i s hs
          rw [xand_eq] at h
          simp only [aEqF, hn', if_false, h1, h2, ih hr, xeqF_sound hte ih hs]
          exact h
        · cases h
      · cases h
theorem xeqA_sound (hte : TEok P te) {d : Nat} {elem : TypeId} {n : Nat} (ih : ∀ {x y : AV} {b : Bool}, xeq te d elem x y = some b → aEq P d elem x y = some b) {xs ys : List AV} : ∀ {m i : Nat} {b : Bool}, xeqA te (xeq te d elem) elem n xs ys i m = some b → aEqA P (aEq P d elem) elem n xs ys i m = some b
  | 0, i, b, h => h
  | m + 1, i, b, h => by
    simp only [xeqA, fcN_eq] at h
    obtain ⟨a, h1, h⟩ := xpart_sound hte h
    obtain ⟨c, h2, h⟩ := xpart_sound hte h
    split at h
    · rename_i r hr
      split at h
      · rename_i s hs
        rw [xand_eq] at h
        have h1' : aPart P elem xs (i * n) = some a := h1
        have h2' : aPart P elem ys (i * n) = some c := h2
        simp only [aEqA, h1', h2', ih hr, xeqA_sound hte ih hs]
        exact h
      · cases h
    · cases h
theorem xeq_sound (hte : TEok P te) : ∀ {d : Nat} {t : TypeId} {x y : AV} {b : Bool}, xeq te d t x y = some b → aEq P d t x y = some b
  | 0, t, x, y, b, h => by cases h
  | d + 1, t, x, y, b, h => by
    have h : (match te.get t with
      | some i => xeqD te (xeq te d) i.und i.held x y
      | none => none) = some b := h
    split at h
    · rename_i i hi
      obtain ⟨h1, _, _, _, _, _, _, h8⟩ := hte _ i hi
      unfold xeqD at h
      split at h
      · rename_i fs hu
        rw [hu] at h1
        split at h
        · split at h
          · split at h
            · cases h
            · rename_i hh
              rw [hh] at h8
              simp only [aEq, h1]
              rw [if_pos h8]
              exact xeqF_sound hte (fun h => xeq_sound hte h) h
          · cases h
        · cases h
      · rename_i len elem hu
        rw [hu] at h1
        split at h
        · split at h
          · split at h
            · rename_i el hel
              obtain ⟨_, _, h3, _⟩ := hte _ el hel
              simp only [aEq, h1, h3]
              exact xeqA_sound hte (fun h => xeq_sound hte h) h
            · cases h
          · cases h
        · cases h
      · rename_i hu
        rw [hu] at h1
        obtain ⟨a, rfl, h2⟩ := avBool_sound h
        obtain ⟨c, rfl, h3⟩ := avBool_sound h2
        simp only [aEq, h1]
        rw [xbeq_eq] at h3; exact h3
      · rename_i hu
        rw [hu] at h1
        obtain ⟨k, a, rfl, h2⟩ := avInt_sound h
        obtain ⟨k', c, rfl, h3⟩ := avInt_sound h2
        split at h3
        · rename_i hk
          obtain rfl := knum_eq hk
          simp only [aEq, h1, if_true]
          rw [ieq_eq] at h3; exact h3
        · cases h3
      · cases h
    · cases h

noncomputable def xnilS (a : AV) : Option Bool := match a with
  | .c (.slice none 0 0) => some true
  | .sl _ _ _ _ => some false
  | .zs => some false
  | .isl _ => some false
  | .bs _ _ _ _ _ => some false
  | _ => none
theorem xnilS_eq (a : AV) : xnilS a = isNilS a := rfl

noncomputable def xeqG (te : Tr TI) (t : TypeId) (xs ys : List AV) : Option Bool := match te.get t with
  | some i => match i.eqg with
    | true => none
    | false => xeq te 10000 t (.agg xs) (.agg ys)
  | none => none
noncomputable def xeqN (te : Tr TI) (t : TypeId) (x y : AV) : Option Bool := match te.get t with
  | some i => match i.und with
    | .slice _ => match xnilS x with
      | some true => xnilS y
      | some false => match xnilS y with
        | some true => some false
        | _ => none
      | none => none
    | .interface ms => match ms.isEmpty with
      | true => match isNilI x with
        | some true => isNilI y
        | some false => match isNilI y with
          | some true => some false
          | _ => none
        | none => none
      | false => none
    | _ => none
  | none => none
noncomputable def xeqS (te : Tr TI) (t : TypeId) (x y : AV) : Option Bool := match x with
  | .agg xs => match y with
    | .agg ys => xeqG te t xs ys
    | _ => none
  | x => xeqN te t x y
theorem xeqS_sound (hte : TEok P te) {t : TypeId} {x y : AV} {b : Bool} (h : xeqS te t x y = some b) : aEqS P t x y = some b := by
  unfold xeqS at h
  split at h
  · split at h
    · unfold xeqG at h
      split at h
      · rename_i i hi
        obtain ⟨_, _, _, _, _, _, h7, _⟩ := hte _ i hi
        split at h
        · cases h
        · rename_i hg
          rw [hg] at h7
          simp only [aEqS]
          rw [if_pos h7]
          exact xeq_sound hte h
      · cases h
    · cases h
  · rename_i hne
    unfold xeqN at h
    split at h
    · rename_i i hi
      obtain ⟨h1, _⟩ := hte _ i hi
      split at h
      · rename_i e hu
        rw [hu] at h1
        simp only [xnilS_eq] at h
        unfold aEqS
        split
        · rename_i xs ys; exact absurd rfl (hne xs)
        · simp only [h1]
          split at h
          · rename_i hq
            rw [hq, h]
          · rename_i hq
            split at h
            · rename_i hq2; cases h; rw [hq, hq2]
            · cases h
          · cases h
      · rename_i ms hu
        rw [hu] at h1
        split at h
        · rename_i hm
          unfold aEqS
          split
          · rename_i xs ys; exact absurd rfl (hne xs)
          · simp only [h1]
            rw [if_pos hm]
            split at h
            · rename_i hq
              rw [hq, h]
            · rename_i hq
              split at h
              · rename_i hq2; cases h; rw [hq, hq2]
              · cases h
            · cases h
        · cases h
      · cases h
    · cases h

noncomputable def xbinAgg (te : Tr TI) (op : BinOp) (t : TypeId) (x y : AV) (k : AV → Option β) : Option β := match op with
  | .eql => match xeqS te t x y with
    | some b => fcB b fun b => k (.c (.bool b))
    | none => none
  | .neq => match xeqS te t x y with
    | some b => fcB (xnot b) fun b => k (.c (.bool b))
    | none => none
  | _ => none
theorem xbinAgg_sound (hte : TEok P te) {op : BinOp} {t : TypeId} {x y : AV} {k : AV → Option β} {r : β} (h : xbinAgg te op t x y k = some r) : ∃ v, aBinAgg P op t x y = some (True, v) ∧ k v = some r := by
  unfold xbinAgg at h
  simp only [fcB_eq, xnot_eq] at h
  split at h
  · split at h
    · rename_i b hb
      exact ⟨_, by simp only [aBinAgg, xeqS_sound hte hb]; rfl, h⟩
    · cases h
  · split at h
    · rename_i b hb
      exact ⟨_, by simp only [aBinAgg, xeqS_sound hte hb]; rfl, h⟩
    · cases h
  · cases h

/-! ### append, clear -/

noncomputable def xels (H : Hp) (sz : Nat) (x : AV) (k : List AV → Option β) : Option β := match x with
  | .sl id st len cap => match H.get id with
    | some (.arr sz' es) => match Nat.beq sz' sz with
      | true => lenK es 0 fun n => match Nat.ble (Nat.add st len) n with
        | true => fcL ((es.drop st).take len) k
        | false => none
      | false => none
    | _ => none
  | .isl es => match es with
    | [] => k []
    | e :: l => xcells e fun cs => lenK cs 0 fun m => match Nat.beq m sz with
      | true => k (e :: l)
      | false => none
  | .c (.slice none 0 0) => k []
  | .zs => k []
  | _ => none
theorem xels_sound {H : Hp} {sz : Nat} {x : AV} {k : List AV → Option β} {r : β} (h : xels H sz x k = some r) : ∃ (c : Prop) (els : List AV), elsOf H.abs sz x = some (c, els) ∧ c ∧ k els = some r := by
  unfold xels at h
  simp only [Hp.get_eq, lenK_eq, Nat.zero_add, fcL_eq, xcells_eq] at h
  split at h
  · split at h
    · rename_i sz' es ho
      split at h
      · rename_i hs
        split at h
        · rename_i hb
          exact ⟨_, _, by simp only [elsOf, ho]; rw [if_pos ⟨Nat.eq_of_beq_eq_true hs, Nat.le_of_ble_eq_true hb⟩], trivial, h⟩
        · cases h
      · cases h
    · cases h
  · split at h
    · exact ⟨_, _, rfl, fun h => by simp at h, h⟩
    · split at h
      · rename_i hs
        exact ⟨_, _, rfl, fun _ => by simpa [List.getD] using Nat.eq_of_beq_eq_true hs, h⟩
      · cases h
  · exact ⟨_, _, rfl, trivial, h⟩
  · exact ⟨_, _, rfl, trivial, h⟩
  · cases h

noncomputable def xappNew (byt sz m : Nat) (els : List AV) (s : AV) (H : Hp) (k : AV → Hp → Option β) : Option β := match els with
  | [] => k s H
  | e :: l => match Nat.ble (Nat.mul m byt) 1099511627776 with
    | true => match Nat.ble m 1099511627776 with
      | true => fcN H.n fun id' => H.pushK (.arr sz (e :: l)) fun H => k (.sl id' 0 m m) H
      | false => none
    | false => none
noncomputable def xappOld (byt sz m : Nat) (els : List AV) (id st len cap : Nat) (H : Hp) (k : AV → Hp → Option β) : Option β := match H.get id with
  | some (.arr sz' es) => match Nat.beq sz' sz with
    | true => lenK es 0 fun n => match Nat.ble (Nat.add st len) n with
      | true => match Nat.blt 0 cap with
        | true => fcN (Nat.add len m) fun q => match Nat.ble (Nat.mul q byt) 1099511627776 with
          | true => match Nat.ble q 1099511627776 with
            | true => fcL ((es.drop st).take len ++ els) fun es' => fcN H.n fun id' => H.setK id .dead fun H => H.pushK (.arr sz es') fun H => k (.sl id' 0 q q) H
            | false => none
          | false => none
        | false => none
      | false => none
    | false => none
  | _ => none
noncomputable def xapp (z : AV) (byt : Nat) (s x : AV) (H : Hp) (k : AV → Hp → Option β) : Option β :=
  xcells z fun zc => lenK zc 0 fun sz => xels H sz x fun els => lenK els 0 fun m => match s with
    | .sl id st len cap => match els with
      | [] => k (.sl id st len cap) H
      | e :: l => xappOld byt sz m (e :: l) id st len cap H k
    | .c (.slice none 0 0) => xappNew byt sz m els (.c (.slice none 0 0)) H k
    | .zs => xappNew byt sz m els .zs H k
    | _ => none
theorem xappNew_sound {z : AV} {byt : Nat} {c : Prop} (hc : c) {els : List AV} {s : AV} {H : Hp} {k : AV → Hp → Option β} {r : β} (h : xappNew byt z.cells.length els.length els s H k = some r) :
    ∃ (ar : AR) (H' : Hp), aAppNew z byt c els s H.abs = some ar ∧ ar.c ∧ ar.H = H'.abs ∧ k ar.v H' = some r := by
  unfold xappNew at h
  simp only [fcN_eq, Hp.pushK_eq] at h
  split at h
  · exact ⟨_, H, rfl, hc, rfl, h⟩
  · split at h
    · rename_i q1
      split at h
      · rename_i q2
        exact ⟨_, _, rfl, ⟨hc, Nat.le_of_ble_eq_true q1, Nat.le_of_ble_eq_true q2⟩, by rw [Hp.abs_push], by rw [Hp.abs_length]; exact h⟩
      · cases h
    · cases h
noncomputable def xappend (te : Tr TI) (t u : TypeId) (s x : AV) (H : Hp) (k : AV → Hp → Option β) : Option β := match te.get t with
  | some i => match i.und with
    | .slice elem => match te.get u with
      | some j => match j.und with
        | .slice _ => match te.get elem with
          | some el => match el.ze with
            | some z => xapp z el.byt s x H k
            | none => none
          | none => none
        | _ => none
      | none => none
    | _ => none
  | none => none
theorem xappend_sound (hte : TEok P te) {t u : TypeId} {s x : AV} {H : Hp} {k : AV → Hp → Option β} {r : β} (h : xappend te t u s x H k = some r) :
    ∃ (ar : AR) (H' : Hp), aAppend P t u s x H.abs = some ar ∧ ar.c ∧ ar.H = H'.abs ∧ k ar.v H' = some r := by
  unfold xappend at h
  split at h
  · rename_i i hi
    obtain ⟨h1, _⟩ := hte _ i hi
    split at h
    · rename_i elem hu
      rw [hu] at h1
      split at h
      · rename_i j hj
        obtain ⟨h2, _⟩ := hte _ j hj
        split at h
        · rename_i e2 hu2
          rw [hu2] at h2
          split at h
          · rename_i el hel
            obtain ⟨_, _, _, h5, _, h6, _⟩ := hte _ el hel
            split at h
            · rename_i z hz
              rw [hz] at h6
              unfold xapp at h
              simp only [xcells_eq, lenK_eq, Nat.zero_add] at h
              have h9 := xels_sound h
              clear h
              obtain ⟨c, els, he, hc, h⟩ := h9
              unfold aAppend
              simp only [h1, h2, h5, h6, he]
              split at h
              · split at h
                · exact ⟨_, H, rfl, hc, rfl, h⟩
                · rename_i e0 l0
                  unfold xappOld at h
                  simp only [Hp.get_eq, fcN_eq, fcL_eq, Hp.setK_eq, Hp.pushK_eq, lenK_eq, Nat.zero_add] at h
                  split at h
                  · rename_i sz' es ho
                    split at h
                    · rename_i q1
                      split at h
                      · rename_i q2
                        split at h
                        · rename_i q3
                          split at h
                          · rename_i q4
                            split at h
                            · rename_i q5
                              have e1 := Nat.eq_of_beq_eq_true q1
                              simp only [ho]
                              rw [if_pos ⟨e1, Nat.le_of_ble_eq_true q2, (blt_iff _ _).1 q3⟩]
                              subst e1
                              refine ⟨_, _, rfl, ⟨hc, Nat.le_of_ble_eq_true q4, Nat.le_of_ble_eq_true q5⟩, by rw [Hp.abs_push, Hp.abs_set], ?_⟩
                              rw [Hp.abs_length]; exact h
                            · cases h
                          · cases h
                        · cases h
                      · cases h
                    · cases h
                  · cases h
              · exact xappNew_sound hc h
              · exact xappNew_sound hc h
              · cases h
            · cases h
          · cases h
        · cases h
      · cases h
    · cases h
  · cases h

noncomputable def xclear (te : Tr TI) (t : TypeId) (x : AV) (H : Hp) (k : AV → Hp → Option β) : Option β := match te.get t with
  | some i => match i.und with
    | .slice elem => match x with
      | .sl id st len cap => match te.get elem with
        | some el => match el.ze with
          | some z => match H.get id with
            | some (.arr sz es) => xcells z fun zc => lenK zc 0 fun szz => match Nat.beq sz szz with
              | true => lenK es 0 fun n => match Nat.ble (Nat.add st len) n with
                | true => match Nat.blt 0 cap with
                  | true => repK z len fun zs => fcL (es.take st ++ (zs ++ es.drop (Nat.add st len))) fun es' => H.setK id (.arr sz es') fun H => k .un H
                  | false => none
                | false => none
              | false => none
            | _ => none
          | none => none
        | none => none
      | .c (.slice none 0 0) => k .un H
      | .zs => k .un H
      | _ => none
    | _ => none
  | none => none
theorem xclear_sound (hte : TEok P te) {t : TypeId} {x : AV} {H : Hp} {k : AV → Hp → Option β} {r : β} (h : xclear te t x H k = some r) :
    ∃ (ar : AR) (H' : Hp), aClear P t x H.abs = some ar ∧ ar.c ∧ ar.H = H'.abs ∧ k ar.v H' = some r := by
  unfold xclear at h
  simp only [Hp.get_eq, xcells_eq, lenK_eq, Nat.zero_add, repK_eq, fcL_eq, Hp.setK_eq] at h
  split at h
  · rename_i i hi
    obtain ⟨h1, _⟩ := hte _ i hi
    split at h
    · rename_i elem hu
      rw [hu] at h1
      split at h
      · split at h
        · rename_i el hel
          obtain ⟨_, _, _, _, _, h6, _⟩ := hte _ el hel
          split at h
          · rename_i z hz
            rw [hz] at h6
            split at h
            · rename_i sz es ho
              split at h
              · rename_i q1
                split at h
                · rename_i q2
                  split at h
                  · rename_i q3
                    refine ⟨_, _, by simp only [aClear, h1, h6, ho]; rw [if_pos ⟨Nat.eq_of_beq_eq_true q1, Nat.le_of_ble_eq_true q2, (blt_iff _ _).1 q3⟩], trivial, by rw [Hp.abs_set], h⟩
                  · cases h
                · cases h
              · cases h
            · cases h
          · cases h
        · cases h
      · exact ⟨_, H, by simp only [aClear, h1]; rfl, trivial, rfl, h⟩
      · exact ⟨_, H, by simp only [aClear, h1]; rfl, trivial, rfl, h⟩
      · cases h
    · cases h
  · cases h
end
end Go.Ab
