/- One of the texts that this claim stands on. -/
import Derived.Test.YtminjfnjobgbnaaGreatEv45
import Derived.Test.YtminjfnjobgbnaaGreatEv44
set_option linter.unusedVariables false
set_option linter.unusedSimpArgs false
set_option linter.unusedSimpArgs false
set_option linter.unusedVariables false
namespace Go.Ab.Pd
open Go.Proofs
inductive SegK (H : List AO) : AV → List Kep → Prop
  | nil : SegK H (.c (.slice none 0 0)) []
  | zs : SegK H .zs []
  | row {id n cap : Nat} {rs : List AV} {l : List Kep} (h : H[id]? = some (.arr 9 rs)) (hn : n = l.length) (hr : n ≤ rs.length) (hc : n ≤ cap) (ht : rs.take n = l.map Kep.av) : SegK H (.sl id 0 n cap) l
def Same3 (s s' : AV) : Prop := (s = .c (.slice none 0 0) ∧ s' = .c (.slice none 0 0)) ∨ (s = .zs ∧ s' = .zs) ∨ ∃ id n cap n' cap', s = .sl id 0 n cap ∧ s' = .sl id 0 n' cap'
theorem SegK.same3 {H : List AO} {s : AV} {l : List Kep} (h : SegK H s l) : Same3 s s := by
  cases h with
  | nil => exact .inl ⟨rfl, rfl⟩
  | zs => exact .inr (.inl ⟨rfl, rfl⟩)
  | row => exact .inr (.inr ⟨_, _, _, _, _, rfl, rfl⟩)
theorem Same3.own {s s' : AV} (h : Same3 s s') : ownId s' = ownId s := by
  rcases h with ⟨rfl, rfl⟩ | ⟨rfl, rfl⟩ | ⟨_, _, _, _, _, rfl, rfl⟩ <;> rfl
theorem SegK.get {rs : List AV} {l : List Kep} {n : Nat} (hn : n = l.length) (ht : rs.take n = l.map Kep.av) {j : Nat} (hj : j < n) : rs.getD j .un = (l.getD j default).av := by
  have h1 := getD_map Kep.av l default (by omega : j < l.length)
  rw [← ht] at h1
  rw [← h1, List.getD_eq_getElem?_getD, List.getD_eq_getElem?_getD, List.getElem?_take_of_lt hj]
def PredK (g : Nat) (caps : List AV) (pr : Kep → Bool) (l : List Kep) (s : AV) (H : List AO) : Prop :=
  ∀ (H' : List AO) (x : Kep) (K : AV → List AO → Prop), x ∈ l → (∀ j, j < H.length → ownId s ≠ some j → H'[j]? = H[j]?) → K (B (pr x)) H' → AC Tryz.prog GG g (x.av :: caps) H' K
set_option maxHeartbeats 8000000 in
set_option maxRecDepth 400000 in
theorem indexK {g : Nat} {caps : List AV} {pr : Kep → Bool} {l : List Kep} {s : AV} {H : List AO} (hseg : SegK H s l) (hl : l.length ≤ 2 ^ 20) (hp : PredK g caps pr l s H) {K : AV → List AO → Prop} (hK : K (I (firstI pr l 0)) H) :
    AC Tryz.prog GG 67 [s, .fn g [] caps] H K := by
  cases hseg with
  | nil =>
    refine goE e67 TOk.nil 0 ?_
    simp (maxSteps := 2000000) only [push_cast, seval, ↓kw2]
    refine FW.inLoop ?_
    refine goN ?_
    simp (maxSteps := 2000000) only [push_cast, seval, ↓kw2]
    exact ⟨_, rfl, hK⟩
  | zs =>
    refine goE e67 TOk.nil 0 ?_
    simp (maxSteps := 2000000) only [push_cast, seval, ↓kw2]
    refine FW.inLoop ?_
    refine goN ?_
    simp (maxSteps := 2000000) only [push_cast, seval, ↓kw2]
    exact ⟨_, rfl, hK⟩
  | row hid hn hr hc ht =>
    rename_i id n cap rs
    refine goE e67 TOk.nil 0 ?_
    simp (maxSteps := 2000000) only [push_cast, seval, ↓kw2]
    refine FW.loopInv (fun m ts H' => ∃ i : Nat, i + m = l.length ∧ firstI pr (l.drop i) i = firstI pr l 0 ∧ H' = H ∧ ts 0 = .sl id 0 n cap ∧ ts 1 = .fn g [] caps ∧ ts 7 = I (n : Int) ∧ ts 8 = I (i : Int)) l.length
      ⟨0, by omega, rfl, rfl, rfl, rfl, rfl, rfl⟩ ?_
    rintro m ih ts H' ⟨i, hi, hf, rfl, t0, t1, t7, t8⟩
    refine FW.inLoop ?_
    by_cases hlt : i < n
    · have hd1 : decide ((i : Int) < (n : Int)) = true := by simp [hlt]
      have hg := SegK.get hn ht hlt
      have hb : i < rs.length := by omega
      rw [drop_cons default (by omega : i < l.length)] at hf
      have hmem : l.getD i default ∈ l := by simp [List.getD, (by omega : i < l.length)]
      generalize l.getD i default = x at hg hf hmem
      have hcl := Kep.cells x
      refine goN ?_
      simp (maxSteps := 2000000) only [push_cast, seval, ↓kw2, t0, t1, t7, t8, hid, hd1, hg, hb, hcl, Int.toNat_natCast]
      repeat (refine ⟨by omega, ?_⟩)
      refine hp _ x _ hmem (fun _ _ _ => rfl) ?_
      rw [firstI_cons] at hf
      cases hpx : pr x
      · rw [hpx, if_neg (by decide)] at hf
        refine goN ?_
        simp (maxSteps := 2000000) only [push_cast, seval, ↓kw2, t8]
        rw [wrapL (n := (i : Int) + 1) (by omega) (by omega)]
        exact ih (m - 1) (by omega) _ _ ⟨i + 1, by omega, hf, rfl, t0, t1, t7, rfl⟩
      · rw [hpx, if_pos rfl] at hf
        refine goN ?_
        simp (maxSteps := 2000000) only [push_cast, seval, ↓kw2, t8]
        exact ⟨_, rfl, by rw [hf]; exact hK⟩
    · have hd1 : decide ((i : Int) < (n : Int)) = false := by simp; omega
      rw [List.drop_eq_nil_of_le (by omega)] at hf
      refine goN ?_
      simp (maxSteps := 2000000) only [push_cast, seval, ↓kw2, t7, t8, hd1]
      exact ⟨_, rfl, by rw [show (-1 : Int) = firstI pr l 0 from hf]; exact hK⟩
theorem e37 : Ent Tryz.prog 37 Tryz.f37 [] 2 := ⟨Tryz.func37, rfl, by decide, by kernel_rfl, by kernel_rfl, by decide, by kernel_rfl⟩
attribute [push_cast] Tryz.f37
set_option maxHeartbeats 8000000 in
set_option maxRecDepth 400000 in
theorem deleteK {g : Nat} {caps : List AV} {pr : Kep → Bool} {l : List Kep} {s : AV} {H : List AO} (hseg : SegK H s l) (hl : l.length ≤ 2 ^ 20) (hp : PredK g caps pr l s H) {K : AV → List AO → Prop}
    (hK : ∀ H' s', SegK H' s' (l.filter fun x => !pr x) → Same3 s s' → (∀ j, j < H.length → ownId s ≠ some j → H'[j]? = H[j]?) → K s' H') :
    AC Tryz.prog GG 37 [s, .fn g [] caps] H K := by
  by_cases hno : firstI pr l 0 = -1
  · have hall := firstI_no hno
    have hfl : (l.filter fun x => !pr x) = l := List.filter_eq_self.2 fun x hx => by rw [hall x hx]; rfl
    rw [hfl] at hK
    refine goE e37 TOk.nil 0 ?_
    simp (maxSteps := 2000000) only [push_cast, seval, ↓kw2]
    refine indexK hseg hl hp ?_
    rw [hno]
    refine goN ?_
    simp (maxSteps := 2000000) only [push_cast, seval, ↓kw2]
    exact ⟨_, rfl, hK _ _ hseg hseg.same3 fun _ _ _ => rfl⟩
  · obtain ⟨k, hk, hfi, hpk, hpre⟩ := firstI_yes hno
    rw [Nat.zero_add] at hfi
    have hseg0 := hseg
    cases hseg with
    | nil => simp at hk
    | zs => simp at hk
    | row hid hn hr hc ht =>
      rename_i id n cap rs
      have hk1 : ¬ (k : Int) = -1 := by omega
      have w1 := wrapL (n := (k : Int) + 1) (by omega) (by omega)
      refine goE e37 TOk.nil 0 ?_
      simp (maxSteps := 2000000) only [push_cast, seval, ↓kw2]
      refine indexK hseg0 hl hp ?_
      rw [hfi]
      refine goN ?_
      simp (maxSteps := 2000000) only [push_cast, seval, ↓kw2, hk1, w1]
      have hfk : (l.take (k + 1)).filter (fun x => !pr x) = l.take k := by
        rw [take_succ_getD default hk, List.filter_append, List.filter_eq_self.2 fun x hx => by rw [hpre x hx]; rfl]
        have : ([l.getD k default].filter fun x => !pr x) = [] := by rw [List.filter_cons_of_neg (by rw [hpk]; decide), List.filter_nil]
        rw [this, List.append_nil]
      have htk0 : rs.take k = (l.take k).map Kep.av := by
        have h := congrArg (List.take k) ht
        rw [List.take_take, Nat.min_eq_left (by omega), ← List.map_take] at h
        exact h
      refine FW.loopInv (fun m ts H' => ∃ (i j : Nat) (rs' : List AV), j + m = l.length ∧ i < j ∧ H'[id]? = some (.arr 9 rs') ∧ rs'.length = rs.length ∧ i = ((l.take j).filter fun x => !pr x).length ∧ rs'.take i = ((l.take j).filter fun x => !pr x).map Kep.av ∧
        (∀ q, i ≤ q → q < n → ∃ y : Kep, rs'.getD q .un = y.av) ∧ (∀ q, j ≤ q → q < n → rs'.getD q .un = (l.getD q default).av) ∧ (∀ q, q < H.length → q ≠ id → H'[q]? = H[q]?) ∧ H.length ≤ H'.length ∧ ts 0 = .sl id 0 n cap ∧ ts 1 = .fn g [] caps ∧ ts 5 = I (i : Int) ∧ ts 6 = I (j : Int)) (l.length - (k + 1))
        ⟨k, k + 1, rs, by omega, by omega, hid, rfl, by rw [hfk, List.length_take]; omega, by rw [hfk]; exact htk0, (fun q _ h2 => ⟨_, SegK.get hn ht h2⟩), (fun q _ h2 => SegK.get hn ht h2), (fun _ _ _ => rfl), Nat.le_refl _, rfl, rfl, rfl, rfl⟩ ?_
      have hidl := lt_of_get hid
      rintro m ih ts H' ⟨i, j, rs', hj, hij, hr', hrl, hil, hit, hiy, hjy, hoth, hlen, t0, t1, t5, t6⟩
      refine FW.inLoop ?_
      by_cases hlt : j < n
      · have hd1 : decide ((j : Int) < (n : Int)) = true := by simp [hlt]
        have hg := hjy j (Nat.le_refl _) hlt
        obtain ⟨y, hy⟩ := hiy i (Nat.le_refl _) (by omega)
        have hb : j < rs'.length := by omega
        have hb2 : i < rs'.length := by omega
        have htk := take_succ_getD default (by omega : j < l.length)
        have hmem : l.getD j default ∈ l := by simp [List.getD, (by omega : j < l.length)]
        have w2 := wrapL (n := (j : Int) + 1) (by omega) (by omega)
        have w3 := wrapL (n := (i : Int) + 1) (by omega) (by omega)
        generalize hx : l.getD j default = x at hg hmem htk
        have hcl := Kep.cells x
        have hcy := Kep.cells y
        have hri : ∀ X, (H' ++ X)[id]? = some (.arr 9 rs') := fun X => by rw [List.getElem?_append_left (by omega)]; exact hr'
        refine goN ?_
        simp (maxSteps := 2000000) only [push_cast, seval, ↓kw2, t0, t1, t5, t6, hr', hri, hd1, hg, hb, hcl, Int.toNat_natCast, getA0, setA0, Kep.av]
        repeat (refine ⟨by omega, ?_⟩)
        refine hp _ x _ hmem (fun q h1 h2 => by rw [List.getElem?_append_left (by omega)]; exact hoth q h1 (fun e => h2 (by rw [e]; rfl))) ?_
        cases hpx : pr x
        · have hset : ∀ X Y, ((H' ++ X).set id Y)[id]? = some Y := fun X Y => List.getElem?_set_self (by simp; omega)
          refine goN ?_
          simp (maxSteps := 2000000) only [push_cast, seval, ↓kw2, t0, t1, t5, t6, hri, hy, hb2, hcy, w2, w3, Int.toNat_natCast, getA0, setA0, Kep.av]
          repeat (refine ⟨by omega, ?_⟩)
          have hft : (l.take (j + 1)).filter (fun x => !pr x) = (l.take j).filter (fun x => !pr x) ++ [x] := by rw [htk, List.filter_append]; simp [hpx]
          exact ih (m - 1) (by omega) _ _ ⟨i + 1, j + 1, rs'.set i x.av, by omega, by omega, hset _ _, by rw [List.length_set]; exact hrl, by rw [hft, List.length_append, List.length_singleton, ← hil], (by
              rw [hft, List.map_append, ← hit, List.take_add_one, List.getElem?_set_self hb2, List.take_set_of_le (Nat.le_refl _)]
              rfl), (fun q h1 h2 => by rw [List.getD_eq_getElem?_getD, List.getElem?_set_ne (by omega), ← List.getD_eq_getElem?_getD]; exact hiy q (by omega) h2),
            (fun q h1 h2 => by rw [List.getD_eq_getElem?_getD, List.getElem?_set_ne (by omega), ← List.getD_eq_getElem?_getD]; exact hjy q (by omega) h2), (fun q h1 h2 => by rw [List.getElem?_set_ne (fun e => h2 e.symm), List.getElem?_append_left (by omega)]; exact hoth q h1 h2), by simp; omega, t0, t1, rfl, rfl⟩
        · skip
          have hft : (l.take (j + 1)).filter (fun x => !pr x) = (l.take j).filter (fun x => !pr x) := by rw [htk, List.filter_append]; simp [hpx]
          refine goN ?_
          simp (maxSteps := 2000000) only [push_cast, seval, ↓kw2, t5, t6, w2]
          exact ih (m - 1) (by omega) _ _ ⟨i, j + 1, rs', by omega, by omega, hri _, hrl, by rw [hft]; exact hil, by rw [hft]; exact hit, hiy, (fun q h1 h2 => hjy q (by omega) h2), (fun q h1 h2 => by rw [List.getElem?_append_left (by omega)]; exact hoth q h1 h2), by simp; omega, t0, t1, t5, rfl⟩
      · have hd1 : decide ((j : Int) < (n : Int)) = false := by simp; omega
        have hjl : j = l.length := by omega
        rw [hjl, List.take_length] at hil hit
        have b4 : i + (n - i) ≤ rs'.length := by omega
        have b5 : 0 < cap - i := by omega
        have hset : ∀ X, (H'.set id X)[id]? = some X := fun X => List.getElem?_set_self (lt_of_get hr')
        refine goN ?_
        simp (maxSteps := 2000000) only [push_cast, seval, ↓kw2, t0, t5, t6, hr', hd1, Int.toNat_natCast, aSlice, aBound, aClear, b4, b5, hset]
        repeat (refine ⟨by omega, ?_⟩)
        refine ⟨_, rfl, hK _ _ (SegK.row (n := i) (cap := cap) (hset _) hil ?_ (by omega) ?_) (.inr (.inr ⟨_, _, _, _, _, rfl, rfl⟩)) fun q h1 h2 => ?_⟩
        · simp only [List.length_append, List.length_take, List.length_replicate, List.length_drop]; omega
        · rw [List.take_append_of_le_length (by rw [List.length_take]; omega), List.take_take, Nat.min_self]; exact hit
        · have hq : q ≠ id := fun e => h2 (by rw [e]; rfl)
          rw [List.getElem?_set_ne (fun e => hq e.symm)]; exact hoth q h1 hq
end Go.Ab.Pd

set_option linter.unusedSimpArgs false
set_option linter.unusedVariables false
namespace Go.Ab.Pd
open Go.Proofs
theorem e41 : Ent Tryz.prog 41 Tryz.f41 [] 2 := ⟨Tryz.func41, rfl, by decide, by kernel_rfl, by kernel_rfl, by decide, by kernel_rfl⟩
attribute [push_cast] Tryz.f41
set_option maxHeartbeats 4000000 in
set_option maxRecDepth 400000 in
theorem drop1_pur (k : Kep) (id : Int) : Pur Tryz.prog GG 41 [k.av, .iptr [I id] 0] (B (decide (k.id = id))) := by
  show Pur Tryz.prog GG 41 [KP k.id k.x k.y k.z k.p k.q k.r k.fr k.till, .iptr [I id] 0] _
  refine goQ e41 TOk.nil 0 ?_
  simp (maxSteps := 2000000) only [push_cast, seval, ↓kw2]
  exact ⟨_, rfl, done_pur rfl rfl⟩
theorem e38 : Ent Tryz.prog 38 Tryz.f38 [] 2 := ⟨Tryz.func38, rfl, by decide, by kernel_rfl, by kernel_rfl, by decide, by kernel_rfl⟩
attribute [push_cast] Tryz.f38
set_option maxHeartbeats 4000000 in
set_option maxRecDepth 400000 in
theorem over1_pur (k : Kep) (now : Int) : Pur Tryz.prog GG 38 [k.av, .iptr [I now] 0] (B (decide (k.till ≤ now))) := by
  show Pur Tryz.prog GG 38 [KP k.id k.x k.y k.z k.p k.q k.r k.fr k.till, .iptr [I now] 0] _
  refine goQ e38 TOk.nil 0 ?_
  simp (maxSteps := 2000000) only [push_cast, seval, ↓kw2]
  exact ⟨_, rfl, done_pur rfl rfl⟩
theorem predK {g : Nat} {pr : Kep → Bool} {n : Int} (h : ∀ k : Kep, Pur Tryz.prog GG g [k.av, .iptr [I n] 0] (B (pr k))) {l : List Kep} {s : AV} {H : List AO} {q : Nat} (hq : H[q]? = some (.cells [I n])) (hs : ownId s ≠ some q) : PredK g [.ptr q 0] pr l s H := by
  intro H' x K _ hf hK
  have hq' : H'[q]? = some (.cells [I n]) := (hf q (lt_of_get hq) hs).trans hq
  refine AC.view ggp (n := 2) (args' := [x.av, .iptr [I n] 0]) ?_ rfl rfl (h x) hK
  have h1 : frz 2 H' x.av = some x.av := frz_pure rfl
  have h2 : frz 2 H' (.ptr q 0) = some (.iptr [I n] 0) := by
    unfold Go.Ab.frz
    simp only [AV.pur, Bool.false_eq_true, if_false, hq', mapO, frz_pure (a := I n) rfl]
    rfl
  simp only [mapO, h1, h2]
theorem LiveS.segK {H : List AO} {s r : AV} {l : List Kep} (h : LiveS 9 H s r (l.map Kep.av)) : SegK H r l := by
  generalize hm : l.map Kep.av = m at h
  cases h with
  | nil => rw [List.map_eq_nil_iff.1 hm]; exact .nil
  | zs => rw [List.map_eq_nil_iff.1 hm]; exact .zs
  | row h h0 =>
    subst hm
    rw [List.length_map] at h0 ⊢
    exact .row h rfl (by rw [List.length_map]; exact Nat.le_refl _) (Nat.le_refl _) (List.take_of_length_le (by simp))
def delS (ks : AV) (l : List Kep) : AV := match ks with
  | .c (.slice none 0 0) => .c (.slice none 0 0)
  | _ => .isl (l.map Kep.av)
def delZ (ks : AV) (l : List Kep) : AV := match ks with
  | .c (.slice none 0 0) => .c (.slice none 0 0)
  | .isl [] => .zs
  | _ => .isl (l.map Kep.av)
theorem del_froz {H0 H : List AO} {ks r s' : AV} {l m : List Kep} (hr : LiveS 9 H0 ks r (l.map Kep.av)) (hs : Same3 r s') (hg : SegK H s' m) : frz 2 H s' = some (delZ ks m) ∧ (delZ ks m).pur = true ∧ (s'.pur = true → delZ ks m = s') := by
  generalize hm : l.map Kep.av = q at hr
  cases hr with
  | nil =>
    rcases hs with ⟨_, rfl⟩ | ⟨h, _⟩ | ⟨_, _, _, _, _, h, _⟩
    · exact ⟨rfl, rfl, fun _ => rfl⟩
    · cases h
    · cases h
  | zs =>
    rcases hs with ⟨h, _⟩ | ⟨_, rfl⟩ | ⟨_, _, _, _, _, h, _⟩
    · cases h
    · exact ⟨rfl, rfl, fun _ => rfl⟩
    · cases h
  | row h h0 =>
    rcases hs with ⟨h, _⟩ | ⟨h, _⟩ | ⟨_, _, _, _, _, _, rfl⟩
    · cases h
    · cases h
    · cases q with
      | nil => simp at h0
      | cons x q =>
        cases hg with
        | row hid hn hr hc ht =>
          refine ⟨?_, by simp [delZ, AV.pur, purL_map Kep.av _ (fun _ => rfl)], fun e => by cases e⟩
          unfold Go.Ab.frz
          simp only [AV.pur, Bool.false_eq_true, if_false, hid, Nat.zero_add, hr, if_true, List.drop_zero, ht]
          rw [mapO_pure (purL_map Kep.av _ (fun _ => rfl))]; rfl
theorem del_le {ks : AV} {l m : List Kep} (hs : IsSl ks (l.map Kep.av)) (hm : l = [] → m = []) : Le (delZ ks m) (delS ks m) := by
  rcases hs with rfl | ⟨h0, rfl⟩
  · cases l with
    | nil =>
      rw [hm rfl]
      exact fun _ _ _ => zs_isl
    | cons x l => exact Le.refl _
  · exact Le.refl _
theorem delS_sl {ks : AV} {l m : List Kep} (hs : IsSl ks (l.map Kep.av)) (hm : l = [] → m = []) : IsSl (delS ks m) (m.map Kep.av) := by
  rcases hs with rfl | ⟨h0, rfl⟩
  · exact .inl rfl
  · rw [hm (List.map_eq_nil_iff.1 h0)]
    exact .inr ⟨rfl, rfl⟩
theorem e13 : Ent Tryz.prog 13 Tryz.f13 [] 2 := ⟨Tryz.func13, rfl, by decide, by kernel_rfl, by kernel_rfl, by decide, by kernel_rfl⟩
attribute [push_cast] Tryz.f13
set_option maxHeartbeats 4000000 in
set_option maxRecDepth 400000 in
theorem over_pur {l : List Kep} {ks : AV} (hs : IsSl ks (l.map Kep.av)) (hl : l.length ≤ 2 ^ 16) (now : Int) : Pur Tryz.prog GG 13 [ks, I now] (delS ks (l.filter fun k => !decide (k.till ≤ now))) := by
  have hp := hs.pur (purL_map Kep.av _ (fun _ => rfl))
  obtain ⟨k1, k2, k3⟩ := hs.cell
  refine Pur.weak (del_le (m := l.filter fun k => !decide (k.till ≤ now)) hs fun e => by rw [e]; rfl) ?_
  refine goQ e13 TOk.nil 0 ?_ (by simp [AV.purL, AV.pur, hp])
  simp (maxSteps := 2000000) only [push_cast, seval, ↓kw2, k1, k2, k3]
  refine cloneK_ac hs hl ?_
  intro r X hr hi
  refine goN ?_
  simp (maxSteps := 2000000) only [push_cast, seval, ↓kw2, k1, k2, k3]
  refine deleteK hr.segK (by omega) (predK (q := 0) (n := now) (fun k => over1_pur k now) rfl fun e => by have := hi 0 e; simp at this) ?_
  intro H' s' hsg hsm hfr
  refine goN ?_
  simp (maxSteps := 2000000) only [push_cast, seval, ↓kw2]
  exact ⟨_, rfl, 2, (del_froz hr hsm hsg).1⟩
end Go.Ab.Pd

set_option linter.unusedSimpArgs false
set_option linter.unusedVariables false
namespace Go.Ab.Pd
open Go.Proofs
def Sta.left (s : Sta) (id : Int) : List Kep := s.keeps.filter fun k => !decide (k.id = id)
def Sta.dropE (s : Sta) (id : Int) : Int := if s.okV = true then (if (s.left id).length = s.keeps.length then 6 else 0) else 8
def Sta.del (s : Sta) (id : Int) : Sta := { s with keeps := s.left id, ks := delS s.ks (s.left id) }
def Sta.delAV (s : Sta) (id : Int) : AV := ST s.c.a s.c.b s.c.c s.c.boot s.c.free s.c.tries s.c.age s.cs s.now s.next s.js (zsf s.ps) (delZ s.ks (s.left id)) s.ds s.hs s.us
theorem tup2_frz {n : Nat} {H : List AO} {a a' : AV} {x : Int} (h : frz (n + 1) H a = some a') : frz (n + 2) H (.tup [a, I x]) = some (.tup [a', I x]) := by
  unfold Go.Ab.frz
  split
  · rename_i hq
    have ha : a.pur = true := by simpa [AV.pur, AV.purL] using hq
    rw [frz_pure ha] at h
    cases h
    rfl
  · simp only [mapO, h, frz_pure (a := I x) rfl]
    rfl
theorem SegK.len {H : List AO} {r : AV} {l : List Kep} (h : SegK H r l) : aLen Tryz.prog 29 r = some (l.length : Int) := by
  cases h with
  | nil => unfold aLen; simp only [un29]; rfl
  | zs => unfold aLen; simp only [un29]; rfl
  | row h hn hr hc ht => unfold aLen; simp only [un29, hn]
theorem SegK.keep {H H' : List AO} {r : AV} {l : List Kep} (h : SegK H r l) (hk : ∀ i, ownId r = some i → H'[i]? = H[i]?) : SegK H' r l := by
  cases h with
  | nil => exact .nil
  | zs => exact .zs
  | row h hn hr hc ht => exact .row ((hk _ rfl).trans h) hn hr hc ht
theorem SegK.cell {H : List AO} {r : AV} {l : List Kep} (h : SegK H r l) : r.isCell = true ∧ r.isEl = true ∧ r.cells = [r] := by
  cases h <;> exact ⟨rfl, rfl, rfl⟩
theorem e15 : Ent Tryz.prog 15 Tryz.f15 [] 2 := ⟨Tryz.func15, rfl, by decide, by kernel_rfl, by kernel_rfl, by decide, by kernel_rfl⟩
attribute [push_cast] Tryz.f15
set_option maxHeartbeats 16000000 in
set_option maxRecDepth 400000 in
theorem drop_pur0 {s : Sta} (h : s.good) (hl : s.lim) (hl2 : s.lim2) (id : Int) : Pur Tryz.prog GG 15 [s.av, I id] (.tup [if s.dropE id = 0 then s.delAV id else ST0, I (s.dropE id)]) := by
  obtain ⟨⟨⟨a1, a2, a3⟩, b1, b2, b3⟩, ⟨⟨c1, c2, c3⟩, d1, d2, d3⟩, ⟨ee1, ee2, ee3⟩, ⟨f1, f2, f3⟩, g1, g2, g3⟩ := h.cell
  obtain ⟨p1, p2, p3, p4, p5, p6, p7⟩ := h.purs
  have hC := holdc_pur h hl
  have hlen := h.ks.len un29
  rw [List.length_map] at hlen
  unfold Sta.dropE
  simp only [Sta.av] at hC
  show Pur Tryz.prog GG 15 [ST s.c.a s.c.b s.c.c s.c.boot s.c.free s.c.tries s.c.age s.cs s.now s.next s.js s.ps s.ks s.ds s.hs s.us, I id] _
  cases hok : s.okV
  · rw [hok] at hC
    simp only [Bool.false_eq_true, if_false] at hC ⊢
    refine goQ e15 TOk.nil 0 ?_ (by simp [AV.purL, AV.pur, p1, p2, p3, p4, p5, p6, p7])
    simp (maxSteps := 2000000) only [push_cast, seval, ↓kw2, a1, a2, a3, b1, b2, b3, c1, c2, c3, d1, d2, d3, ee1, ee2, ee3, f1, f2, f3, g1, g2, g3]
    refine AC.pur hC ?_
    refine goN ?_
    simp (maxSteps := 2000000) only [push_cast, seval, ↓kw2, a1, a2, a3, b1, b2, b3, c1, c2, c3, d1, d2, d3, ee1, ee2, ee3, f1, f2, f3, g1, g2, g3]
    exact ⟨_, rfl, done_pur rfl rfl⟩
  rw [hok] at hC
  simp only [if_true] at hC ⊢
  refine goQ e15 TOk.nil 0 ?_ (by simp [AV.purL, AV.pur, p1, p2, p3, p4, p5, p6, p7])
  simp (maxSteps := 2000000) only [push_cast, seval, ↓kw2, a1, a2, a3, b1, b2, b3, c1, c2, c3, d1, d2, d3, ee1, ee2, ee3, f1, f2, f3, g1, g2, g3]
  refine AC.pur hC ?_
  refine goN ?_
  simp (maxSteps := 2000000) only [push_cast, seval, ↓kw2, a1, a2, a3, b1, b2, b3, c1, c2, c3, d1, d2, d3, ee1, ee2, ee3, f1, f2, f3, g1, g2, g3]
  refine twinL_ac h hl2 ?_
  intro rp rk X hp hk hpi hki
  obtain ⟨o1, o2, o3⟩ := hp.cell
  obtain ⟨r1, r2, r3⟩ := hk.cell
  unfold Sta.av2
  refine goN ?_
  simp (maxSteps := 2000000) only [push_cast, seval, ↓kw2, a1, a2, a3, b1, b2, b3, c1, c2, c3, d1, d2, d3, ee1, ee2, ee3, f1, f2, f3, g1, g2, g3, o1, o2, o3, r1, r2, r3, getA0, getA, setA0, setA, get_concat]
  have hp2 := hp.app [AO.cells [I s.c.a, I s.c.b, I s.c.c, I s.c.boot, I s.c.free, I s.c.tries, I s.c.age, s.cs, I s.now, I s.next, s.js, rp, rk, s.ds, s.hs, s.us]]
  have hk2 := hk.app [AO.cells [I s.c.a, I s.c.b, I s.c.c, I s.c.boot, I s.c.free, I s.c.tries, I s.c.age, s.cs, I s.now, I s.next, s.js, rp, rk, s.ds, s.hs, s.us]]
  have hkl := hk.lt
  have hpl := hp.lt
  simp only [List.cons_append, List.nil_append, List.length_cons, List.append_assoc, List.length_nil] at hp2 hk2 hkl hpl hki hpi
  generalize hHH : (AO.cells [I s.c.a, I s.c.b, I s.c.c, I s.c.boot, I s.c.free, I s.c.tries, I s.c.age, s.cs, I s.now, I s.next, s.js, s.ps, s.ks, s.ds, s.hs, s.us] :: AO.cells [I id] :: _ :: (X ++ _)) = HH at hp2 hk2 ⊢
  have n0 : HH[0]? = some (AO.cells [I s.c.a, I s.c.b, I s.c.c, I s.c.boot, I s.c.free, I s.c.tries, I s.c.age, s.cs, I s.now, I s.next, s.js, s.ps, s.ks, s.ds, s.hs, s.us]) := by rw [← hHH]; rfl
  have n1 : HH[1]? = some (AO.cells [I id]) := by rw [← hHH]; rfl
  have n2 : HH[2]? = some (AO.cells [I 0, I 0, I 0, I 0, I 0, I 0, I 0, NS, I 0, I 0, NS, NS, NS, NS, NS, NS]) := by rw [← hHH]; rfl
  have nE : HH[X.length + 3]? = some (AO.cells [I s.c.a, I s.c.b, I s.c.c, I s.c.boot, I s.c.free, I s.c.tries, I s.c.age, s.cs, I s.now, I s.next, s.js, rp, rk, s.ds, s.hs, s.us]) := by
    rw [← hHH]
    simp only [List.getElem?_cons_succ]
    exact getA0
  have hlH : HH.length = X.length + 4 := by rw [← hHH]; simp
  have hne : ∀ j, (j < 3 ∨ X.length + 3 ≤ j) → ownId rk ≠ some j := fun j hj e => by
    have h1 := hki j e
    have h2 := hkl j e
    omega
  refine deleteK hk2.segK (by have := hl2.kl; omega) (predK (q := 1) (n := id) (fun k => drop1_pur k id) n1 (hne 1 (by omega))) ?_
  intro H' s' hsg hsm hfr
  obtain ⟨w1, w2, w3⟩ := hsg.cell
  have k0 := (hfr 0 (by omega) (hne _ (by omega))).trans n0
  have k2 := (hfr 2 (by omega) (hne _ (by omega))).trans n2
  have kE := (hfr (X.length + 3) (by omega) (hne _ (by omega))).trans nE
  have u0 : ∀ c, (H'.set (X.length + 3) c)[0]? = some (AO.cells [I s.c.a, I s.c.b, I s.c.c, I s.c.boot, I s.c.free, I s.c.tries, I s.c.age, s.cs, I s.now, I s.next, s.js, s.ps, s.ks, s.ds, s.hs, s.us]) := fun c => by rw [List.getElem?_set_ne (by omega)]; exact k0
  have u2 : ∀ c, (H'.set (X.length + 3) c)[2]? = some (AO.cells [I 0, I 0, I 0, I 0, I 0, I 0, I 0, NS, I 0, I 0, NS, NS, NS, NS, NS, NS]) := fun c => by rw [List.getElem?_set_ne (by omega)]; exact k2
  have uE : ∀ c, (H'.set (X.length + 3) c)[X.length + 3]? = some c := fun c => List.getElem?_set_self (lt_of_get kE)
  have hll := hsg.len
  have hLe : (List.filter (fun x => !decide (x.id = id)) s.keeps) = s.left id := rfl
  rw [hLe] at hsg hll
  by_cases he : (s.left id).length = s.keeps.length
  · have dE : decide (((s.left id).length : Int) = (s.keeps.length : Int)) = true := decide_eq_true (by omega)
    rw [if_pos he]
    have uz : ∀ c d, ((H'.set (X.length + 3) c).set 2 d)[2]? = some d := fun c d => List.getElem?_set_self (lt_of_get (u2 c))
    refine goN ?_
    simp (maxSteps := 2000000) only [push_cast, seval, ↓kw2, a1, a2, a3, b1, b2, b3, c1, c2, c3, d1, d2, d3, ee1, ee2, ee3, f1, f2, f3, g1, g2, g3, o1, o2, o3, r1, r2, r3, getA0, getA, setA0, setA, get_concat, w1, w2, w3, k0, k2, kE, u0, u2, uE, uz, hll, hlen, dE]
    exact ⟨_, rfl, done_pur rfl rfl⟩
  · have dE : decide (((s.left id).length : Int) = (s.keeps.length : Int)) = false := decide_eq_false (by omega)
    rw [if_neg he]
    simp only [if_true]
    have uz : ∀ c d, ((H'.set (X.length + 3) c).set 2 d)[2]? = some d := fun c d => List.getElem?_set_self (lt_of_get (u2 c))
    refine goN ?_
    simp (maxSteps := 2000000) only [push_cast, seval, ↓kw2, a1, a2, a3, b1, b2, b3, c1, c2, c3, d1, d2, d3, ee1, ee2, ee3, f1, f2, f3, g1, g2, g3, o1, o2, o3, r1, r2, r3, getA0, getA, setA0, setA, get_concat, w1, w2, w3, k0, k2, kE, u0, u2, uE, uz, hll, hlen, dE]
    have hset : ∀ j c d, j ≠ X.length + 3 → j ≠ 2 → ((H'.set (X.length + 3) c).set 2 d)[j]? = H'[j]? := fun j c d h1 h2 => by rw [List.getElem?_set_ne (fun e => h2 e.symm), List.getElem?_set_ne (fun e => h1 e.symm)]
    have hp3 : LiveS 13 ((H'.set (X.length + 3) (AO.cells [I s.c.a, I s.c.b, I s.c.c, I s.c.boot, I s.c.free, I s.c.tries, I s.c.age, s.cs, I s.now, I s.next, s.js, rp, s', s.ds, s.hs, s.us])).set 2 (AO.cells [I s.c.a, I s.c.b, I s.c.c, I s.c.boot, I s.c.free, I s.c.tries, I s.c.age, s.cs, I s.now, I s.next, s.js, rp, s', s.ds, s.hs, s.us])) s.ps rp (s.parts.map Prt.av) := hp2.keep fun i hi => by
      have h1 := hpi i hi
      have h2 := hpl i hi
      rw [hset i _ _ (by omega) (by omega)]
      exact hfr i (by omega) h1.2
    have hs3 : SegK ((H'.set (X.length + 3) (AO.cells [I s.c.a, I s.c.b, I s.c.c, I s.c.boot, I s.c.free, I s.c.tries, I s.c.age, s.cs, I s.now, I s.next, s.js, rp, s', s.ds, s.hs, s.us])).set 2 (AO.cells [I s.c.a, I s.c.b, I s.c.c, I s.c.boot, I s.c.free, I s.c.tries, I s.c.age, s.cs, I s.now, I s.next, s.js, rp, s', s.ds, s.hs, s.us])) s' (s.left id) := hsg.keep fun i hi => by
      rw [hsm.own] at hi
      have h1 := hki i hi
      have h2 := hkl i hi
      exact hset i _ _ (by omega) (by omega)
    obtain ⟨x1, x2, x3⟩ := hp3.frozz (purL_map Prt.av _ (fun _ => rfl))
    obtain ⟨y1, y2, y3⟩ := del_froz hk hsm hs3
    exact ⟨_, rfl, 4, tup2_frz (ST_frz (a := s.c.a) (b := s.c.b) (c := s.c.c) (p := s.c.boot) (q := s.c.free) (r := s.c.tries) (t := s.c.age) (now := s.now) (next := s.next) p1 p2 p5 p6 p7 x1 y1 x3 y3)⟩
theorem left_nil {s : Sta} (id : Int) : s.keeps = [] → s.left id = [] := fun e => by unfold Sta.left; rw [e]; rfl
theorem del_good {s : Sta} (h : s.good) (id : Int) : (s.del id).good := ⟨h.cs, h.js, h.ps, delS_sl h.ks (left_nil id), h.ds, h.hs, h.us⟩
theorem drop_pur {s : Sta} (h : s.good) (hl : s.lim) (hl2 : s.lim2) (id : Int) : Pur Tryz.prog GG 15 [s.av, I id] (.tup [if s.dropE id = 0 then (s.del id).av else ST0, I (s.dropE id)]) := by
  refine Pur.weak (fun w E r hr => ?_) (drop_pur0 h hl hl2 id)
  have hL : Le (if s.dropE id = 0 then s.delAV id else ST0) (if s.dropE id = 0 then (s.del id).av else ST0) := by
    split
    · exact ST_le h.cs.cell.1 h.js.1.cell.1 h.ds.cell.1 h.hs.cell.1 h.us.cell.1 h.ps.cell.1 (del_good h id).ks.cell.1 (zsf_le _) (del_le h.ks (left_nil id))
    · exact Le.refl _
  cases hr with
  | tup hl' h' =>
    refine .tup hl' fun i hi => ?_
    match i, hi with
    | 0, _ => exact hL w E _ (h' 0 (by simp))
    | 1, _ => exact h' 1 (by simp)
    | n + 2, hi => exact absurd hi (by simp)
end Go.Ab.Pd

set_option linter.unusedSimpArgs false
set_option linter.unusedVariables false
namespace Go.Ab
open Go.Proofs
section
variable {P : Program} {G : Gl} {ops : Array Oper}
def okFst (ops : Array Oper) (ms : List Nat) (listed : Array Bool) (i : Nat) : Bool := match ops[i]? with
  | some oi => !(clOf oi.op == .call) && compat (clOf oi.op) .scal false && (List.range ops.size).all fun j => j == i || listed.getD j true || (ms.getD j 0).testBit i || (match ops[j]? with
    | some oj => oi.apart ops oj && compat (clOf oi.op) (clOf oj.op) false
    | none => true)
  | none => false
def lin2 (ops : Array Oper) (ms : List Nat) : Nat → Array Bool → List (List Nat)
  | 0, _ => [[]]
  | f + 1, listed => match (Region.ready .any ops listed).find? (okFst ops ms listed) with
    | some i => (lin2 ops ms f (listed.setIfInBounds i true)).map (i :: ·)
    | none => match Region.ready .any ops listed with
      | [] => [[]]
      | rs => rs.flatMap fun i => (lin2 ops ms f (listed.setIfInBounds i true)).map (i :: ·)
def lin2Ok (ops : Array Oper) (ms : List Nat) : Nat → Array Bool → Bool
  | 0, listed => (Region.ready .any ops listed).isEmpty
  | f + 1, listed => match (Region.ready .any ops listed).find? (okFst ops ms listed) with
    | some i => lin2Ok ops ms f (listed.setIfInBounds i true)
    | none => (Region.ready .any ops listed).all fun i => (match ops[i]? with
      | some o => !(clOf o.op == .call)
      | none => false) && lin2Ok ops ms f (listed.setIfInBounds i true)
theorem lin2_ne {ms : List Nat} : ∀ (f : Nat) (listed : Array Bool), lin2 ops ms f listed ≠ []
  | 0, _ => by simp [lin2]
  | f + 1, listed => by
    unfold lin2
    split
    · simp [lin2_ne f]
    · split
      · simp
      · rename_i rs hrs
        cases hr : Region.ready .any ops listed with
        | nil => exact absurd hr hrs
        | cons i rs => simp [lin2_ne f]
theorem lin2_sound {K : (Nat → AV) → List AO → Prop} : ∀ (f : Nat) (listed : Array Bool) (ts : Nat → AV) (H : List AO), Closed ops listed → lin2Ok ops (masks [] ops.toList) f listed = true → (∀ l ∈ lin2 ops (masks [] ops.toList) f listed, runR P G ops (fun _ => false) K l ts H) → anyR P G ops (fun _ => false) K f listed ts H
  | 0, listed, ts, H, hcl, hk, h => ⟨by simpa [lin2Ok] using hk, h [] (by simp [lin2])⟩
  | f + 1, listed, ts, H, hcl, hk, h => by
    unfold lin2Ok at hk
    unfold lin2 at h
    split at hk
    · rename_i i hi
      rw [hi] at h
      simp only [List.mem_map, forall_exists_index, and_imp, forall_apply_eq_imp_iff₂] at h
      have hr' := List.mem_of_find?_eq_some hi
      have hok := List.find?_some hi
      unfold okFst at hok
      split at hok
      · rename_i oi ho
        rw [Bool.and_eq_true, Bool.and_eq_true, Bool.not_eq_true', List.all_eq_true] at hok
        obtain ⟨⟨hci, hcs⟩, hall⟩ := hok
        have h1 : ∀ l ∈ lin2 ops (masks [] ops.toList) f (listed.setIfInBounds i true), stepR P G ops (fun _ => false) i ts H (runR P G ops (fun _ => false) K l) := fun l hl => h l hl
        have h2 := stepR_all (lin2_ne f _) (by rw [ho]; show (!(clOf oi.op == .call)) = true; rw [hci]; rfl) h1
        obtain ⟨v, hy, hK⟩ := YR.of_step ho hcs (by simp) h2
        refine anyR_first (C := clsC (clOf oi.op) H) (W := fun j => ((masks [] ops.toList).getD j 0).testBit i) ho (fun listed j hcl hj hi => masks_wait hcl hj hi) f listed ts H (fun j oj hoj hji hun hw => ?_) hcl hr' hy (clsC_refl _ _) (lin2_sound f _ _ _ (hcl.set hr') hk hK)
        have hlt : j < ops.size := (Array.getElem?_eq_some_iff.1 hoj).1
        have := hall j (by simpa using hlt)
        simp only [Bool.or_eq_true, hoj, Bool.and_eq_true, hun, hw, beq_iff_eq, hji, Bool.false_eq_true, false_or, or_false] at this
        exact ⟨this.1, keeps_cls this.2⟩
      · cases hok
    · rename_i hno
      rw [hno] at h
      rw [List.all_eq_true] at hk
      refine ⟨fun e => ?_, fun i hi => ?_⟩
      · refine h [] ?_
        simp only
        rw [e]
        simp
      · have hk' := hk i hi
        rw [Bool.and_eq_true] at hk'
        have h1 : ∀ l ∈ lin2 ops (masks [] ops.toList) f (listed.setIfInBounds i true), stepR P G ops (fun _ => false) i ts H (runR P G ops (fun _ => false) K l) := fun l hl => by
          refine h (i :: l) ?_
          simp only
          cases hr : Region.ready .any ops listed with
          | nil => rw [hr] at hi; cases hi
          | cons a rs =>
            rw [hr] at hi
            simp only [List.mem_flatMap, List.mem_map]
            exact ⟨i, hi, l, hl, rfl⟩
        exact stepR_mono (stepR_all (lin2_ne f _) hk'.1 h1) fun ts' H' h2 => lin2_sound f _ ts' H' (hcl.set hi) hk'.2 h2
theorem FW.drawAll2 (hm : P.follows .mixedOrders = true) {ls : List (List Nat)} (hl : lin2 ops (masks [] ops.toList) ops.size (Array.replicate ops.size false) = ls) (hk : lin2Ok ops (masks [] ops.toList) ops.size (Array.replicate ops.size false) = true) {rd : Option Nat} {n id : Nat} {k : List Item} {ts : Nat → AV} {H : List AO} {Q : Lv → (Nat → AV) → List AO → Prop} {Inv : (Nat → AV) → List AO → Prop}
    (h : ∀ l ∈ ls, symR P G Tab.nil ops (fun _ ts H => Inv ts H) true l ts H) (hK : ∀ ts' H', Inv ts' H' → FW P G rd n k ts' H' Q) : FW P G rd n (.code (.region id ops true) :: k) ts H Q :=
  FW.draw hm (imp := fun _ => false) (lin2_sound _ _ _ _ (fun j o ho hl => by
    exfalso
    rcases Nat.lt_or_ge j ops.size with h1 | h1 <;> simp [Array.getD, h1] at hl) hk fun l hl' => symR_runR TOk.nil (fun ts' H' h' => hK ts' H' h') l ts H (h l (hl ▸ hl')))
end
end Go.Ab

set_option linter.unusedSimpArgs false
set_option linter.unusedVariables false
namespace Go.Ab.Pd
open Go.Proofs
theorem Jb.same_refl (j : Jb) : j.same j = true := by
  unfold Jb.same
  simp
theorem sameJ_refl : ∀ l : List Jb, sameJ l l = true
  | [] => rfl
  | j :: l => by rw [sameJ_cons, Jb.same_refl, sameJ_refl l]; rfl
def ordS1 : List (List Nat) := [[0, 1, 2, 3, 4, 5, 6, 7], [0, 1, 2, 3, 5, 4, 6, 7], [0, 1, 2, 4, 3, 5, 6, 7], [0, 1, 2, 4, 5, 3, 6, 7], [0, 1, 2, 4, 5, 6, 3, 7], [0, 1, 2, 5, 3, 4, 6, 7], [0, 1, 2, 5, 4, 3, 6, 7], [0, 1, 2, 5, 4, 6, 3, 7]]
theorem dimsEq0 (a b c a' b' c' : Int) : aEqS Tryz.prog 23 (.agg [I a, I b, I c]) (.agg [I a', I b', I c']) = some (a == a' && (b == b' && (c == c' && true))) := by kernel_rfl
theorem dimsEq (a b c : Int) : aEqS Tryz.prog 23 (.agg [I a, I b, I c]) (.agg [I a, I b, I c]) = some true := by rw [dimsEq0]; simp
theorem e16 : Ent Tryz.prog 16 Tryz.f16 [1] 2 := ⟨Tryz.func16, rfl, by decide, by kernel_rfl, by kernel_rfl, by decide, by kernel_rfl⟩
attribute [push_cast] Tryz.f16
set_option maxHeartbeats 16000000 in
set_option maxRecDepth 400000 in
theorem same_self {s : Sta} (h : s.good) (hl : s.lim) (hl2 : s.lim2) {k' : AV} (hk' : IsSl k' (s.keeps.map Kep.av)) : Pur Tryz.prog GG 16 [ST s.c.a s.c.b s.c.c s.c.boot s.c.free s.c.tries s.c.age s.cs s.now s.next s.js s.ps k' s.ds s.hs s.us, s.av] (B true) := by
  obtain ⟨⟨⟨a1, a2, a3⟩, b1, b2, b3⟩, ⟨⟨c1, c2, c3⟩, d1, d2, d3⟩, ⟨ee1, ee2, ee3⟩, ⟨f1, f2, f3⟩, g1, g2, g3⟩ := h.cell
  obtain ⟨p1, p2, p3, p4, p5, p6, p7⟩ := h.purs
  obtain ⟨m1, m2, m3⟩ := hk'.cell
  have p8 := hk'.pur (purL_map Kep.av _ (fun _ => rfl))
  have hJ := same_pur h.js h.js hl.jl (fun j hj => by have := hl2.al j hj; omega)
  rw [sameJ_refl] at hJ
  have hl2c := hl2.cl
  show Pur Tryz.prog GG 16 [_, ST s.c.a s.c.b s.c.c s.c.boot s.c.free s.c.tries s.c.age s.cs s.now s.next s.js s.ps s.ks s.ds s.hs s.us] _
  refine goQ e16 TOk.nil 0 ?_ (by simp [AV.purL, AV.pur, p1, p2, p3, p4, p5, p6, p7, p8])
  simp (maxSteps := 2000000) only [push_cast, seval, ↓kw2, a1, a2, a3, b1, b2, b3, c1, c2, c3, d1, d2, d3, ee1, ee2, ee3, f1, f2, f3, g1, g2, g3, m1, m2, m3, List.contains_cons, Bool.true_or, Bool.or_true, Bool.false_or]
  refine FW.drawAll2 hmix (ls := ordS1) (by kernel_rfl) (by kernel_rfl) (Inv := fun ts' H' => ∃ q r : Nat, ts' 2 = .ptr 0 0 ∧ ts' 3 = .ptr 1 0 ∧ ts' 5 = .ptr q 0 ∧ ts' 6 = .ptr r 0 ∧ H'[0]? = some (AO.cells [I s.c.a, I s.c.b, I s.c.c, I s.c.boot, I s.c.free, I s.c.tries, I s.c.age, s.cs, I s.now, I s.next, s.js, s.ps, k', s.ds, s.hs, s.us]) ∧ H'[1]? = some (AO.cells [I s.c.a, I s.c.b, I s.c.c, I s.c.boot, I s.c.free, I s.c.tries, I s.c.age, s.cs, I s.now, I s.next, s.js, s.ps, s.ks, s.ds, s.hs, s.us]) ∧ H'[q]? = some (AO.cells [I s.c.a, I s.c.b, I s.c.c, I s.c.boot, I s.c.free, I s.c.tries, I s.c.age, s.cs]) ∧ H'[r]? = some (AO.cells [I s.c.a, I s.c.b, I s.c.c, I s.c.boot, I s.c.free, I s.c.tries, I s.c.age, s.cs])) ?_ ?_
  · intro l hl'
    simp only [ordS1, List.mem_cons, List.not_mem_nil, or_false] at hl'
    rcases hl' with rfl | rfl | rfl | rfl | rfl | rfl | rfl | rfl
    all_goals
      simp (maxSteps := 2000000) only [push_cast, seval, ↓kw2, a1, a2, a3, b1, b2, b3, c1, c2, c3, d1, d2, d3, ee1, ee2, ee3, f1, f2, f3, g1, g2, g3, m1, m2, m3]
      exact ⟨_, _, rfl, rfl, rfl, rfl⟩
  · rintro ts' H' ⟨q, r, t2, t3, t5, t6, q0, q1, q5, q6⟩
    have := hl.pl
    have := hl.kl
    have := hl.dl
    have := hl.hl
    have := hl.ul
    refine goW TOk.nil [1] 0 ?_
    simp (maxSteps := 2000000) only [push_cast, seval, ↓kw2, a1, a2, a3, b1, b2, b3, c1, c2, c3, d1, d2, d3, ee1, ee2, ee3, f1, f2, f3, g1, g2, g3, m1, m2, m3, t2, t3, q0, q1, q5, q6, t5, t6, aBinAgg, dimsEq]
    refine equalC h.cs h.cs (by omega) ?_
    rw [decide_eq_true rfl]
    refine goW TOk.nil [1] 0 ?_
    simp (maxSteps := 2000000) only [push_cast, seval, ↓kw2, a1, a2, a3, b1, b2, b3, c1, c2, c3, d1, d2, d3, ee1, ee2, ee3, f1, f2, f3, g1, g2, g3, m1, m2, m3, t2, t3, q0, q1, q5, q6, t5, t6]
    refine AC.pur hJ ?_
    refine goW TOk.nil [1] 0 ?_
    simp (maxSteps := 2000000) only [push_cast, seval, ↓kw2, a1, a2, a3, b1, b2, b3, c1, c2, c3, d1, d2, d3, ee1, ee2, ee3, f1, f2, f3, g1, g2, g3, m1, m2, m3, t2, t3, q0, q1, q5, q6]
    refine equalP h.ps h.ps (by omega) ?_
    rw [decide_eq_true rfl]
    refine goW TOk.nil [1] 0 ?_
    simp (maxSteps := 2000000) only [push_cast, seval, ↓kw2, a1, a2, a3, b1, b2, b3, c1, c2, c3, d1, d2, d3, ee1, ee2, ee3, f1, f2, f3, g1, g2, g3, m1, m2, m3, t2, t3, q0, q1, q5, q6]
    refine equalK hk' h.ks (by omega) ?_
    rw [decide_eq_true rfl]
    refine goW TOk.nil [1] 0 ?_
    simp (maxSteps := 2000000) only [push_cast, seval, ↓kw2, a1, a2, a3, b1, b2, b3, c1, c2, c3, d1, d2, d3, ee1, ee2, ee3, f1, f2, f3, g1, g2, g3, m1, m2, m3, t2, t3, q0, q1, q5, q6]
    refine equalI h.ds h.ds (by omega) ?_
    rw [decide_eq_true rfl]
    refine goW TOk.nil [1] 0 ?_
    simp (maxSteps := 2000000) only [push_cast, seval, ↓kw2, a1, a2, a3, b1, b2, b3, c1, c2, c3, d1, d2, d3, ee1, ee2, ee3, f1, f2, f3, g1, g2, g3, m1, m2, m3, t2, t3, q0, q1, q5, q6]
    refine equalI h.hs h.hs (by omega) ?_
    rw [decide_eq_true rfl]
    refine goW TOk.nil [1] 0 ?_
    simp (maxSteps := 2000000) only [push_cast, seval, ↓kw2, a1, a2, a3, b1, b2, b3, c1, c2, c3, d1, d2, d3, ee1, ee2, ee3, f1, f2, f3, g1, g2, g3, m1, m2, m3, t2, t3, q0, q1, q5, q6]
    refine equalI h.us h.us (by omega) ?_
    rw [decide_eq_true rfl]
    refine goW TOk.nil [1] 0 ?_
    simp (maxSteps := 2000000) only [push_cast, seval, ↓kw2, a1, a2, a3, b1, b2, b3, c1, c2, c3, d1, d2, d3, ee1, ee2, ee3, f1, f2, f3, g1, g2, g3, m1, m2, m3, t2, t3, q0, q1, q5, q6]
    exact ⟨_, rfl, done_pur rfl rfl⟩
end Go.Ab.Pd

set_option linter.unusedSimpArgs false
set_option linter.unusedVariables false
namespace Go.Ab.Pd
open Go.Proofs
theorem add_facts {s : Sta} {b : Bx6} {fr till : Int} (h : s.addE b fr till = 0) : s.okV = true ∧ s.ckb b = 0 ∧ s.now ≤ fr ∧ fr < till ∧ till ≤ 1099511627776 ∧ (s.keeps.length : Int) < 4 ∧ s.next < 2147483647 ∧ s.taken s.keeps (s.own b) fr till = false := by
  unfold Sta.addE at h
  split at h
  · rename_i h1
    split at h
    · cases h
    · rename_i h2
      split at h
      · cases h
      · rename_i h3
        split at h
        · cases h
        · rename_i h4
          unfold Sta.argE at h2
          unfold Sta.full at h3
          simp only [Bool.or_eq_true, Bool.not_eq_true', decide_eq_true_eq, decide_eq_false_iff_not, not_or, Classical.not_not] at h2 h3
          refine ⟨h1, h2.1, by omega, by omega, by omega, by omega, by omega, by simpa using h4⟩
  · cases h
theorem put_good {s : Sta} (h : s.good) (b : Bx6) (fr till : Int) : (s.put b fr till).good := ⟨h.cs, h.js, h.ps, .inl rfl, h.ds, h.hs, h.us⟩
theorem put_lim {s : Sta} (h : s.lim) (h4 : (s.keeps.length : Int) < 4) (b : Bx6) (fr till : Int) : (s.put b fr till).lim := ⟨h.jl, h.pl, by show (s.keeps ++ [_]).length ≤ _; simp; omega, h.dl, h.hl, h.ul⟩
theorem put_lim2 {s : Sta} (h : s.lim2) (h4 : (s.keeps.length : Int) < 4) (b : Bx6) (fr till : Int) : (s.put b fr till).lim2 := ⟨h.cl, h.jl, h.pl, by show (s.keeps ++ [_]).length ≤ _; simp; omega, h.dl, h.hl, h.ul, h.al⟩
theorem keeps_id {s : Sta} (h : s.keepsV = true) {i : Nat} (hi : i < s.keeps.length) : (s.keeps.getD i default).id < s.next := by
  have := keeps_ok h hi
  unfold Sta.okK at this
  simp only [Bool.and_eq_true, decide_eq_true_eq, Bool.not_eq_true', decide_eq_false_iff_not] at this
  omega
theorem late_mono {now next : Int} {j : Jb} (h : lateJ now next j = false) : lateJ now (next + 1) j = false := by
  unfold lateJ at *
  simp only [Bool.or_eq_false_iff, decide_eq_false_iff_not] at *
  omega
theorem anyN_all {pr : Nat → Bool} {n : Nat} (h : ∀ i, i < n → pr i = false) : anyN pr n 0 = false := by
  rw [Bool.eq_false_iff, Ne, anyN_iff]
  rintro ⟨j, _, hj, hp⟩
  rw [h j (by omega)] at hp
  cases hp
theorem put_fine {s : Sta} {b : Bx6} {fr till : Int} (h : s.addE b fr till = 0) : (s.put b fr till).fine := by
  obtain ⟨hok, hck, h1, h2, h3, h4, h5, h6⟩ := add_facts h
  obtain ⟨cf, jb, mr, pa, st, kp⟩ := okV_iff.1 hok
  have hnow : 0 ≤ s.now ∧ 1 ≤ s.next := by
    unfold Sta.config at cf
    simp only [Bool.and_eq_true, decide_eq_true_eq] at cf
    omega
  refine ⟨?_, ?_, mr, pa, st, ?_⟩
  · unfold Sta.config at cf ⊢
    show (decide (s.c.chk = 0) && decide (0 ≤ s.now) && decide (s.now ≤ 1099511627776) && decide (1 ≤ s.next + 1) && decide (s.next + 1 ≤ 2147483647)) = true
    simp only [Bool.and_eq_true, decide_eq_true_eq] at cf ⊢
    omega
  · show jobsV s.c s.jobs s.now (s.next + 1) = true
    unfold jobsV at jb ⊢
    simp only [Bool.and_eq_true, Bool.not_eq_true'] at jb ⊢
    exact ⟨jb.1, jb.2.1, anyN_all fun i hi => late_mono (anyN_none jb.2.2 i hi)⟩
  · unfold Sta.keepsV
    have hl : (s.put b fr till).keeps.length = s.keeps.length + 1 := by show (s.keeps ++ [_]).length = _; simp
    rw [hl, Bool.and_eq_true, Bool.not_eq_true']
    refine ⟨decide_eq_true (by omega), anyN_all fun i hi => ?_⟩
    rw [Bool.not_eq_false']
    have htk : (s.put b fr till).keeps.take i = s.keeps.take i := by
      show (s.keeps ++ [_]).take i = _
      rw [List.take_append_of_le_length (by omega)]
    by_cases hin : i < s.keeps.length
    · have hgd : (s.put b fr till).keeps.getD i default = s.keeps.getD i default := by
        show (s.keeps ++ [_]).getD i default = _
        simp [List.getD, List.getElem?_append_left hin]
      have hla : (s.put b fr till).last i = s.last i := by
        unfold Sta.last
        split
        · rfl
        · show ((s.keeps ++ [_]).getD (i - 1) default).id = _
          simp [List.getD, List.getElem?_append_left (show i - 1 < s.keeps.length by omega)]
      have ho := keeps_ok kp hin
      have hid := keeps_id kp hin
      rw [hgd, hla]
      unfold Sta.okK at ho ⊢
      rw [htk]
      have hne : decide ((s.put b fr till).next ≤ (s.keeps.getD i default).id) = false := decide_eq_false (by show ¬s.next + 1 ≤ _; omega)
      have hne0 : decide (s.next ≤ (s.keeps.getD i default).id) = false := decide_eq_false (by omega)
      rw [hne0] at ho
      rw [hne]
      exact ho
    · have hin' : i = s.keeps.length := by omega
      subst hin'
      have hgd : (s.put b fr till).keeps.getD s.keeps.length default = Kep.mk6 s.next (s.own b) fr till := by
        show (s.keeps ++ [_]).getD s.keeps.length default = _
        simp [List.getD]
      have hla : (s.put b fr till).last s.keeps.length < s.next := by
        unfold Sta.last
        split
        · omega
        · show ((s.keeps ++ [_]).getD (s.keeps.length - 1) default).id < _
          have := keeps_id kp (show s.keeps.length - 1 < s.keeps.length by omega)
          simpa [List.getD, List.getElem?_append_left (show s.keeps.length - 1 < s.keeps.length by omega)] using this
      rw [hgd]
      unfold Sta.okK
      rw [htk, List.take_length]
      have hck' : ckB s.c.a s.c.b s.c.c b.x b.y b.z b.p b.q b.r = 0 := hck
      have hboth : ckB s.c.a s.c.b s.c.c (s.own b).x (s.own b).y (s.own b).z (s.own b).p (s.own b).q (s.own b).r = 0 ∧ (s.put b fr till).told (Kep.mk6 s.next (s.own b) fr till) = true := by
        have how : s.own b = ⟨if b.p = s.c.a then 0 else b.x, if b.q = s.c.b then 0 else b.y, if b.r = s.c.c then 0 else b.z, b.p, b.q, b.r⟩ := by
          unfold Sta.own
          rw [hck]
          simp [can, cas]
        have hdb : okD s.c.a s.c.b s.c.c ∧ okB s.c.a s.c.b s.c.c b.x b.y b.z b.p b.q b.r := by
          unfold ckB at hck'
          split at hck'
          · split at hck'
            · exact ⟨by assumption, by assumption⟩
            · cases hck'
          · cases hck'
        have hB' : okB s.c.a s.c.b s.c.c (if b.p = s.c.a then 0 else b.x) (if b.q = s.c.b then 0 else b.y) (if b.r = s.c.c then 0 else b.z) b.p b.q b.r := by
          have := hdb.2
          unfold okB ok1 at this ⊢
          refine ⟨?_, ?_, ?_⟩ <;> split <;> omega
        have hk0 : ckB s.c.a s.c.b s.c.c (s.own b).x (s.own b).y (s.own b).z (s.own b).p (s.own b).q (s.own b).r = 0 := by
          rw [how, ckB, if_pos hdb.1, if_pos hB']
        refine ⟨hk0, ?_⟩
        show decide (can (ckB s.c.a s.c.b s.c.c (s.own b).x (s.own b).y (s.own b).z (s.own b).p (s.own b).q (s.own b).r) s.c.a (s.own b).p (s.own b).x = (s.own b).x ∧ can (ckB s.c.a s.c.b s.c.c (s.own b).x (s.own b).y (s.own b).z (s.own b).p (s.own b).q (s.own b).r) s.c.b (s.own b).q (s.own b).y = (s.own b).y ∧ can (ckB s.c.a s.c.b s.c.c (s.own b).x (s.own b).y (s.own b).z (s.own b).p (s.own b).q (s.own b).r) s.c.c (s.own b).r (s.own b).z = (s.own b).z ∧ cas (ckB s.c.a s.c.b s.c.c (s.own b).x (s.own b).y (s.own b).z (s.own b).p (s.own b).q (s.own b).r) (s.own b).p = (s.own b).p ∧ cas (ckB s.c.a s.c.b s.c.c (s.own b).x (s.own b).y (s.own b).z (s.own b).p (s.own b).q (s.own b).r) (s.own b).q = (s.own b).q ∧ cas (ckB s.c.a s.c.b s.c.c (s.own b).x (s.own b).y (s.own b).z (s.own b).p (s.own b).q (s.own b).r) (s.own b).r = (s.own b).r) = true
        rw [hk0, how, decide_eq_true_eq]
        simp only [can, cas, if_true]
        refine ⟨?_, ?_, ?_, trivial, trivial, trivial⟩ <;> split <;> rfl
      have e1 : ckB (s.put b fr till).c.a (s.put b fr till).c.b (s.put b fr till).c.c (Kep.mk6 s.next (s.own b) fr till).x (Kep.mk6 s.next (s.own b) fr till).y (Kep.mk6 s.next (s.own b) fr till).z (Kep.mk6 s.next (s.own b) fr till).p (Kep.mk6 s.next (s.own b) fr till).q (Kep.mk6 s.next (s.own b) fr till).r = 0 := hboth.1
      have e2 : (s.put b fr till).taken s.keeps (Kep.mk6 s.next (s.own b) fr till).bx (Kep.mk6 s.next (s.own b) fr till).fr (Kep.mk6 s.next (s.own b) fr till).till = false := h6
      rw [e1, hboth.2, e2]
      simp only [Bool.and_eq_true, decide_eq_true_eq, Bool.not_eq_true', decide_eq_false_iff_not]
      refine ⟨⟨⟨⟨⟨⟨⟨⟨trivial, trivial⟩, ?_⟩, ?_⟩, ?_⟩, ?_⟩, ?_⟩, ?_⟩, trivial⟩
      · show ¬s.next ≤ _; omega
      · show ¬s.next + 1 ≤ s.next; omega
      · show ¬fr < 0; omega
      · show ¬till ≤ fr; omega
      · show ¬1099511627776 < till; omega
      · show ¬till ≤ s.now; omega
end Go.Ab.Pd

set_option linter.unusedSimpArgs false
set_option linter.unusedVariables false
namespace Go.Ab.Pd
open Go.Proofs
theorem spanEq0 (a b a' b' : Int) : aEqS Tryz.prog 54 (.agg [I a, I b]) (.agg [I a', I b']) = some (a == a' && (b == b' && true)) := by kernel_rfl
theorem spanEq (a b : Int) : aEqS Tryz.prog 54 (.agg [I a, I b]) (.agg [I a, I b]) = some true := by rw [spanEq0]; simp
theorem put_left {s : Sta} {b : Bx6} {fr till : Int} (h : s.addE b fr till = 0) : (s.put b fr till).left s.next = s.keeps := by
  obtain ⟨hok, _⟩ := add_facts h
  have kp := (okV_iff.1 hok).kp
  show (s.keeps ++ [Kep.mk6 s.next (s.own b) fr till]).filter (fun k => !decide (k.id = s.next)) = s.keeps
  rw [List.filter_append]
  have h1 : s.keeps.filter (fun k => !decide (k.id = s.next)) = s.keeps := List.filter_eq_self.2 fun k hk => by
    obtain ⟨i, hi, rfl⟩ := List.getElem_of_mem hk
    have := keeps_id kp hi
    rw [show s.keeps.getD i default = s.keeps[i] by simp [List.getD, hi]] at this
    rw [decide_eq_false (by omega)]; rfl
  rw [h1]
  simp [Kep.mk6]
theorem okV_ks {s : Sta} {k' : AV} : ({ s with ks := k' } : Sta).okV = s.okV := rfl
theorem e5 : Ent Tryz.prog 5 Tryz.f5 [] 3 := ⟨Tryz.func5, rfl, by decide, by kernel_rfl, by kernel_rfl, by decide, by kernel_rfl⟩
attribute [push_cast] Tryz.f5
set_option maxHeartbeats 16000000 in
set_option maxRecDepth 400000 in
theorem keeps_law {s : Sta} (h : s.good) (b : Bx6) (fr till : Int) : Pur Tryz.prog GG 5 [s.av, .agg [I b.x, I b.y, I b.z, I b.p, I b.q, I b.r], .agg [I fr, I till]] (B true) := by
  obtain ⟨⟨⟨a1, a2, a3⟩, b1, b2, b3⟩, ⟨⟨c1, c2, c3⟩, d1, d2, d3⟩, ⟨ee1, ee2, ee3⟩, ⟨f1, f2, f3⟩, g1, g2, g3⟩ := h.cell
  obtain ⟨p1, p2, p3, p4, p5, p6, p7⟩ := h.purs
  have hG := great_pur h
  simp only [Sta.av] at hG
  show Pur Tryz.prog GG 5 [ST s.c.a s.c.b s.c.c s.c.boot s.c.free s.c.tries s.c.age s.cs s.now s.next s.js s.ps s.ks s.ds s.hs s.us, .agg [I b.x, I b.y, I b.z, I b.p, I b.q, I b.r], .agg [I fr, I till]] _
  by_cases hg : s.great = true
  · rw [hg] at hG
    refine goQ e5 TOk.nil 0 ?_ (by simp [AV.purL, AV.pur, p1, p2, p3, p4, p5, p6, p7])
    simp (maxSteps := 2000000) only [push_cast, seval, ↓kw2, a1, a2, a3, b1, b2, b3, c1, c2, c3, d1, d2, d3, ee1, ee2, ee3, f1, f2, f3, g1, g2, g3]
    refine AC.pur alive21 ?_
    refine goN ?_
    simp (maxSteps := 2000000) only [push_cast, seval, ↓kw2, a1, a2, a3, b1, b2, b3, c1, c2, c3, d1, d2, d3, ee1, ee2, ee3, f1, f2, f3, g1, g2, g3]
    refine AC.pur hG ?_
    refine goN ?_
    simp (maxSteps := 2000000) only [push_cast, seval, ↓kw2]
    exact ⟨_, rfl, done_pur rfl rfl⟩
  rw [Bool.not_eq_true] at hg
  rw [hg] at hG
  have hl := Sta.lim_of hg
  have hl2 := Sta.lim2_of hg
  have hA := add_pur h hl hl2 b fr till
  simp only [Sta.av] at hA
  by_cases hae : s.addE b fr till = 0
  · rw [hae] at hA
    simp only [if_true] at hA
    obtain ⟨hok, _, _, _, _, h4, h5, _⟩ := add_facts hae
    have hpg := put_good h b fr till
    have hpl := put_lim hl h4 b fr till
    have hC1 := holdc_pur hpg hpl
    rw [okV_iff.2 (put_fine hae)] at hC1
    have hD := drop_pur hpg hpl (put_lim2 hl2 h4 b fr till) s.next
    have hdr : (s.put b fr till).dropE s.next = 0 := by
      unfold Sta.dropE
      rw [if_pos (okV_iff.2 (put_fine hae)), put_left hae, if_neg]
      show ¬s.keeps.length = (s.keeps ++ [_]).length
      simp
    rw [hdr] at hD
    simp only [if_true] at hC1 hD
    have hks : ((s.put b fr till).del s.next).ks = .isl (s.keeps.map Kep.av) := by
      show delS (.isl ((s.keeps ++ [Kep.mk6 s.next (s.own b) fr till]).map Kep.av)) ((s.put b fr till).left s.next) = _
      rw [put_left hae]; rfl
    have hkz : IsSl (AV.isl (s.keeps.map Kep.av)) (s.keeps.map Kep.av) := .inl rfl
    have hS := same_self h hl hl2 hkz
    have hC2 := holdc_pur (s := { s with ks := .isl (s.keeps.map Kep.av) }) ⟨h.cs, h.js, h.ps, hkz, h.ds, h.hs, h.us⟩ ⟨hl.jl, hl.pl, hl.kl, hl.dl, hl.hl, hl.ul⟩
    rw [okV_ks, hok, if_pos rfl] at hC2
    have hxs : IsSl (AV.isl ((s.keeps ++ [Kep.mk6 s.next (s.own b) fr till]).map Kep.av)) ((s.keeps ++ [Kep.mk6 s.next (s.own b) fr till]).map Kep.av) := .inl rfl
    have hxl := hxs.len un29
    rw [List.length_map, List.length_append, List.length_singleton] at hxl
    have hxi := hxs.idx (P := Tryz.prog) un29 sz56 (i := (s.keeps.length : Int)) (by rw [List.length_map, List.length_append, List.length_singleton]; omega) (by omega)
    rw [Int.toNat_natCast, getD_map Kep.av _ default (by rw [List.length_append, List.length_singleton]; omega), show (s.keeps ++ [Kep.mk6 s.next (s.own b) fr till]).getD s.keeps.length default = Kep.mk6 s.next (s.own b) fr till by simp [List.getD]] at hxi
    have hxc : (Kep.mk6 s.next (s.own b) fr till).av.cells = [I s.next, I (s.own b).x, I (s.own b).y, I (s.own b).z, I (s.own b).p, I (s.own b).q, I (s.own b).r, I fr, I till] := rfl
    have hxb : (0 ≤ (s.keeps.length : Int) ∧ (s.keeps.length : Int) < (((s.keeps ++ [Kep.mk6 s.next (s.own b) fr till]).map Kep.av).length : Int)) := ⟨by omega, by rw [List.length_map, List.length_append, List.length_singleton]; omega⟩
    have hw1 : IntKind.i64.wrap ((s.keeps.length : Int) + 1) = ((s.keeps.length + 1 : Nat) : Int) := wrapL (by omega) (by omega)
    have hw2 : IntKind.i64.wrap (s.next + 1) = s.next + 1 := wrapL (by have := cfg_next hok; omega) (by omega)
    obtain ⟨x1, x2, x3⟩ := hxs.cell
    obtain ⟨z1, z2, z3⟩ := hkz.cell
    have hlen := h.ks.len un29
    rw [List.length_map] at hlen
    unfold Sta.av at hC1 hD hC2
    rw [hks] at hD
    simp only [Sta.put, Sta.del] at hA hC1 hD
    generalize AV.isl ((s.keeps ++ [Kep.mk6 s.next (s.own b) fr till]).map Kep.av) = XK at hA hC1 hD hxl hxi x1 x2 x3
    generalize AV.isl (s.keeps.map Kep.av) = KZ at hD hS hC2 z1 z2 z3
    refine goQ e5 TOk.nil 0 ?_ (by simp [AV.purL, AV.pur, p1, p2, p3, p4, p5, p6, p7])
    simp (maxSteps := 2000000) only [push_cast, seval, ↓kw2, a1, a2, a3, b1, b2, b3, c1, c2, c3, d1, d2, d3, ee1, ee2, ee3, f1, f2, f3, g1, g2, g3]
    refine AC.pur alive21 ?_
    refine goN ?_
    simp (maxSteps := 2000000) only [push_cast, seval, ↓kw2, a1, a2, a3, b1, b2, b3, c1, c2, c3, d1, d2, d3, ee1, ee2, ee3, f1, f2, f3, g1, g2, g3]
    refine AC.pur hG ?_
    refine goN ?_
    simp (maxSteps := 2000000) only [push_cast, seval, ↓kw2, a1, a2, a3, b1, b2, b3, c1, c2, c3, d1, d2, d3, ee1, ee2, ee3, f1, f2, f3, g1, g2, g3]
    refine AC.pur hA ?_
    refine goN ?_
    simp (maxSteps := 2000000) only [push_cast, seval, ↓kw2, a1, a2, a3, b1, b2, b3, c1, c2, c3, d1, d2, d3, ee1, ee2, ee3, f1, f2, f3, g1, g2, g3, x1, x2, x3, hlen]
    refine ⟨_, toVQ hC1, ?_⟩
    simp (maxSteps := 2000000) only [push_cast, seval, ↓kw2, a1, a2, a3, b1, b2, b3, c1, c2, c3, d1, d2, d3, ee1, ee2, ee3, f1, f2, f3, g1, g2, g3, x1, x2, x3, hxl, hxi, hxc, hw1, hw2, aBinAgg, spanEq]
    refine ⟨hxb, hxb, ?_⟩
    refine AC.pur hD ?_
    refine goN ?_
    simp (maxSteps := 2000000) only [push_cast, seval, ↓kw2, a1, a2, a3, b1, b2, b3, c1, c2, c3, d1, d2, d3, ee1, ee2, ee3, f1, f2, f3, g1, g2, g3, x1, x2, x3, z1, z2, z3]
    refine AC.pur hS ?_
    refine goN ?_
    simp (maxSteps := 2000000) only [push_cast, seval, ↓kw2, a1, a2, a3, b1, b2, b3, c1, c2, c3, d1, d2, d3, ee1, ee2, ee3, f1, f2, f3, g1, g2, g3, x1, x2, x3, z1, z2, z3]
    refine AC.pur hC2 ?_
    refine goN ?_
    simp (maxSteps := 2000000) only [push_cast, seval, ↓kw2, a1, a2, a3, b1, b2, b3, c1, c2, c3, d1, d2, d3, ee1, ee2, ee3, f1, f2, f3, g1, g2, g3]
    exact ⟨_, rfl, done_pur rfl rfl⟩
  · have dE : decide (s.addE b fr till = 0) = false := decide_eq_false hae
    simp only [if_neg hae] at hA
    refine goQ e5 TOk.nil 0 ?_ (by simp [AV.purL, AV.pur, p1, p2, p3, p4, p5, p6, p7])
    simp (maxSteps := 2000000) only [push_cast, seval, ↓kw2, a1, a2, a3, b1, b2, b3, c1, c2, c3, d1, d2, d3, ee1, ee2, ee3, f1, f2, f3, g1, g2, g3]
    refine AC.pur alive21 ?_
    refine goN ?_
    simp (maxSteps := 2000000) only [push_cast, seval, ↓kw2, a1, a2, a3, b1, b2, b3, c1, c2, c3, d1, d2, d3, ee1, ee2, ee3, f1, f2, f3, g1, g2, g3]
    refine AC.pur hG ?_
    refine goN ?_
    simp (maxSteps := 2000000) only [push_cast, seval, ↓kw2, a1, a2, a3, b1, b2, b3, c1, c2, c3, d1, d2, d3, ee1, ee2, ee3, f1, f2, f3, g1, g2, g3]
    refine AC.pur hA ?_
    refine goN ?_
    simp (maxSteps := 2000000) only [push_cast, seval, ↓kw2, dE]
    exact ⟨_, rfl, done_pur rfl rfl⟩
end Go.Ab.Pd
