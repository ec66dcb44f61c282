/- One of the texts that this claim stands on. -/
import Derived.Test.YtdfgdheehdabmaaGreatDoorEv47
import Derived.Test.YtdfgdheehdabmaaGreatDoorEv48
set_option linter.unusedVariables false
set_option linter.unusedSimpArgs false
set_option linter.unusedSimpArgs false
set_option linter.unusedVariables false
namespace Go.Ab.Pd
open Go.Proofs Go.Sort
section
variable {a b c : Int} {sc : Plc → Int}
def rankL (a b c : Int) (sc : Plc → Int) (F : List Plc) : List Plc := F.mergeSort fun X Y => decide (cmpS a b c sc X Y ≤ 0)
theorem le_trans' (X Y Z : Plc) (h : decide (cmpS a b c sc X Y ≤ 0) = true) (k : decide (cmpS a b c sc Y Z ≤ 0) = true) : decide (cmpS a b c sc X Z ≤ 0) = true := by
  have t := cmpS_tri (a := a) (b := b) (c := c) (sc := sc) X Y Z
  unfold Tri at t
  simp only [decide_eq_true_eq] at *
  omega
theorem le_total' (X Y : Plc) : (decide (cmpS a b c sc X Y ≤ 0) || decide (cmpS a b c sc Y X ≤ 0)) = true := by
  have e := cmpS_neg (a := a) (b := b) (c := c) (sc := sc) X Y
  rw [Bool.or_eq_true, decide_eq_true_eq, decide_eq_true_eq]
  omega
theorem rankL_perm (F : List Plc) : (rankL a b c sc F).Perm F := List.mergeSort_perm _ _
theorem rankL_pw (F : List Plc) : List.Pairwise (fun X Y => decide (cmpS a b c sc X Y ≤ 0) = true) (rankL a b c sc F) := List.pairwise_mergeSort le_trans' le_total' F
theorem rank_uniq {F L : List Plc} (hok : ∀ X ∈ F, X.ok a b c) (hp : L.Perm F) (hs : List.Pairwise (fun X Y => decide (cmpS a b c sc X Y ≤ 0) = true) L) : L = rankL a b c sc F := by
  refine List.Perm.eq_of_pairwise (fun X Y hX hY h1 h2 => ?_) hs (rankL_pw F) (hp.trans (rankL_perm F).symm)
  have e := cmpS_neg (a := a) (b := b) (c := c) (sc := sc) X Y
  rw [decide_eq_true_eq] at h1 h2
  exact cmpS_zero (sc := sc) (hok X (hp.mem_iff.1 hX)) (hok Y ((rankL_perm F).mem_iff.1 hY)) (by omega)
theorem rank_of {x : Cx} {F : List Plc} {d' : Array Plc} (hn : F.length = x.n) (hok : ∀ X ∈ F, X.ok x.a x.b x.c) (hp : PermIn 0 x.n F.toArray d') (hs : SortedIn x.lt 0 x.n d') : d'.toList = rankL x.a x.b x.c x.sc F := by
  have hsz : d'.size = x.n := by rw [hp.1]; simp [hn]
  refine rank_uniq hok ?_ ?_
  · have := hp.2.2
    rw [Array.toList_extract, Array.toList_extract] at this
    simp only [List.extract_eq_take_drop, List.drop_zero, Nat.sub_zero] at this
    rwa [List.take_of_length_le (by rw [Array.length_toList]; omega), List.take_of_length_le (by simp [hn])] at this
  · rw [List.pairwise_iff_getElem]
    intro i j hi hj hij
    have h := hs i j (by omega) hij (by rw [Array.length_toList] at hj; omega)
    have e := cmpS_neg (a := x.a) (b := x.b) (c := x.c) (sc := x.sc) d'.toList[i] d'.toList[j]
    unfold Cx.lt ltS at h
    rw [decide_eq_false_iff_not] at h
    rw [getE (by rw [Array.length_toList] at hj; exact hj), getE (by rw [Array.length_toList] at hi; exact hi)] at h
    rw [decide_eq_true_eq]
    simp only [Array.getElem_toList] at e ⊢
    omega
end
set_option maxHeartbeats 8000000 in
set_option maxRecDepth 400000 in
theorem allA_ac {a b c : Int} (w : Wnt) {s1 s2 : AV} (q1 : IsSet s1) (q2 : IsSet s2) (h : dwchk a b c w.p w.q w.r = 0) (p1 : Pur Tryz.prog GG 24 [I (manyV a b c), s1] (I 0)) (p2 : Pur Tryz.prog GG 24 [I (3 * manyV a b c), s2] (I 0))
    {hold : Plc → Bool} (hh : ∀ x, x.ok a b c → Pur Tryz.prog GG 35 [.agg [I a, I b, I c], x.av, s1, s2] (.tup [B (hold x), I 0])) {H : List AO} {K : AV → List AO → Prop}
    (hK : ∀ s H', SegP H' s ((wholeL a b c w).filter hold) → (wholeL a b c w = [] → s = .c (.slice none 0 0)) → (¬wholeL a b c w = [] → ∃ id n cap, s = .sl id 0 n cap) → (∀ q, q < H.length → H'[q]? = H[q]?) → (∀ i, ownId s = some i → H.length ≤ i) → K (.tup [s, I 0]) H') :
    AC Tryz.prog GG 14 [.agg [I a, I b, I c], w.av, s1, s2] H K := by
  have h1 := q1.pur
  have h2 := q2.pur
  obtain ⟨k11, k12, k13⟩ := q1.cell
  obtain ⟨k21, k22, k23⟩ := q2.cell
  obtain ⟨hd, hw⟩ := dwchk_ok.1 h
  have hmu := okD_mul hd
  have hmv : manyV a b c = a * b * c := by rw [manyV, if_pos hd]
  have w3 := wrapL (n := 3 * manyV a b c) (by omega) (by omega)
  show AC Tryz.prog GG 14 [.agg [I a, I b, I c], WT w.p w.q w.r w.s w.t w.u w.v, s1, s2] H K
  refine goE e14 S3_ok 0 ?_
  simp (maxSteps := 2000000) only [push_cast, seval, ↓kw2, k11, k12, k13, k21, k22, k23, h, getA, getA0, setA, setA0]
  refine AC.pur p1 ?_
  refine goW S3_ok [] 0 ?_
  simp (maxSteps := 2000000) only [push_cast, seval, ↓kw2, w3, k11, k12, k13, k21, k22, k23, getA, getA0, setA, setA0]
  refine AC.pur p2 ?_
  refine goW S3_ok [] 0 ?_
  simp (maxSteps := 2000000) only [push_cast, seval, ↓kw2, getA, getA0, setA, setA0]
  refine whole_ac hd w hw ?_
  intro H1 s hseg hnil hoth hs
  have g0 : H1[H.length]? = some (.cells [I a, I b, I c]) := (hoth _ (by simp)).trans (by simp)
  have g2 : H1[H.length + 2]? = some (.cells [s1]) := (hoth _ (by simp)).trans (by simp)
  have g3 : H1[H.length + 3]? = some (.cells [s2]) := (hoth _ (by simp)).trans (by simp)
  have hl3 := lt_of_get g3
  simp only [List.length_append, List.length_cons, List.length_nil] at hoth hs
  have hl4 : ∀ j, j < H.length + 4 → j < H1.length ∧ ownId s ≠ some j := fun j hj => ⟨by omega, fun e => by have := hs j e; omega⟩
  refine goW S3_ok [] 0 ?_
  simp (maxSteps := 2000000) only [push_cast, seval, ↓kw2, getA, getA0, setA, setA0]
  refine deleteP (pr := fun x => !(hold x)) hseg (by have := whole_le hd w; omega) ?_ ?_
  · intro H' x K hx hfr hK
    have okx := raw_ok (whole_mem.1 hx)
    have f0 := (hfr _ (hl4 _ (by omega)).1 (hl4 _ (by omega)).2).trans g0
    have f2 := (hfr _ (hl4 _ (by omega)).1 (hl4 _ (by omega)).2).trans g2
    have f3 := (hfr _ (hl4 _ (by omega)).1 (hl4 _ (by omega)).2).trans g3
    refine AC.view ggp (n := 3) (args' := [x.av, .iptr [I a, I b, I c] 0, .iptr [s1] 0, .iptr [s2] 0]) ?_ ?_ rfl (all1_pur h1 h2 q1.cell q2.cell x (hh x okx)) hK
    · simp [mapO, frz, Plc.pur, AV.pur, f0, f2, f3, h1, h2]
    · simp [AV.purL, AV.pur, Plc.pur, h1, h2]
  · intro H2 s' hseg' hsame hfr
    have hff : ((wholeL a b c w).filter fun x => !(!(hold x))) = (wholeL a b c w).filter hold := by simp
    rw [hff] at hseg'
    refine goW S3_ok [] 0 ?_
    simp (maxSteps := 2000000) only [push_cast, seval, ↓kw2]
    refine ⟨_, rfl, ?_⟩
    have hkeep : ∀ q, q < H.length → H2[q]? = H[q]? := fun q hq => (hfr q (hl4 q (by omega)).1 (hl4 q (by omega)).2).trans ((hoth q (by omega)).trans (List.getElem?_append_left hq))
    rcases hsame with ⟨hs0, rfl⟩ | ⟨id, n, cap, n', cap', rfl, rfl⟩
    · exact hK _ _ hseg' (fun _ => rfl) (fun hne => (by
        subst hs0
        generalize wholeL a b c w = L at hseg hne
        cases hseg; exact absurd rfl hne)) hkeep (fun i e => by cases e)
    · exact hK _ _ hseg' (fun e => by have := hnil e; cases this) (fun _ => ⟨_, _, _, rfl⟩) hkeep (fun i e => by cases e; have := hs id rfl; omega)
def rkl (a b c : Int) (w : Wnt) (l : List Plc) : AV := if wholeL a b c w = [] then .c (.slice none 0 0) else .isl (l.map Plc.av)
theorem rkl_is {a b c : Int} {w : Wnt} {sc : Plc → Int} (f : Plc → Bool) : IsSl (rkl a b c w (rankL a b c sc ((wholeL a b c w).filter f))) ((rankL a b c sc ((wholeL a b c w).filter f)).map Plc.av) := by
  unfold rkl
  split
  · rename_i h
    rw [h]
    exact .inr ⟨by simp [rankL], rfl⟩
  · exact .inl rfl
theorem e8 : Ent Tryz.prog 8 Tryz.f8 [] 4 := ⟨Tryz.func8, rfl, by decide, by kernel_rfl, by kernel_rfl, by decide, by kernel_rfl⟩
attribute [push_cast] Tryz.f8
set_option maxHeartbeats 8000000 in
set_option maxRecDepth 400000 in
theorem rank_err {a b c e : Int} {w : Wnt} {s1 s2 : AV} (q1 : IsSet s1) (q2 : IsSet s2) (he : ¬e = 0) (hA : Pur Tryz.prog GG 14 [.agg [I a, I b, I c], w.av, s1, s2] (.tup [.c (.slice none 0 0), I e])) :
    Pur Tryz.prog GG 8 [.agg [I a, I b, I c], w.av, s1, s2] (.tup [.c (.slice none 0 0), I e]) := by
  have h1 := q1.pur
  have h2 := q2.pur
  show Pur Tryz.prog GG 8 [.agg [I a, I b, I c], WT w.p w.q w.r w.s w.t w.u w.v, s1, s2] _
  refine goQ e8 TOk.nil 0 ?_ (by simp [AV.purL, AV.pur, h1, h2])
  simp (maxSteps := 2000000) only [push_cast, seval, ↓kw2]
  refine AC.pur hA ?_
  refine goN ?_
  simp (maxSteps := 2000000) only [push_cast, seval, ↓kw2, he]
  exact ⟨_, rfl, done_pur rfl rfl⟩
set_option maxHeartbeats 8000000 in
set_option maxRecDepth 400000 in
theorem rank_ok {a b c : Int} (w : Wnt) {s1 s2 : AV} (q1 : IsSet s1) (q2 : IsSet s2) (h : dwchk a b c w.p w.q w.r = 0) (p1 : Pur Tryz.prog GG 24 [I (manyV a b c), s1] (I 0)) (p2 : Pur Tryz.prog GG 24 [I (3 * manyV a b c), s2] (I 0))
    {hold : Plc → Bool} (hh : ∀ x, x.ok a b c → Pur Tryz.prog GG 35 [.agg [I a, I b, I c], x.av, s1, s2] (.tup [B (hold x), I 0]))
    {sc : Plc → Int} (hsc : ∀ x, x.ok a b c → Pur Tryz.prog GG 37 [.agg [I a, I b, I c], x.av, s1] (.tup [I (sc x), I 0])) :
    Pur Tryz.prog GG 8 [.agg [I a, I b, I c], w.av, s1, s2] (.tup [rkl a b c w (rankL a b c sc ((wholeL a b c w).filter hold)), I 0]) := by
  have h1 := q1.pur
  have h2 := q2.pur
  obtain ⟨hd, hw⟩ := dwchk_ok.1 h
  have hwl := whole_le hd w
  have hokF : ∀ X ∈ (wholeL a b c w).filter hold, X.ok a b c := fun X hX => ((wholeL_mem hd).1 (List.mem_filter.1 hX).1).1
  have hFl : ((wholeL a b c w).filter hold).length ≤ 24576 := Nat.le_trans (List.length_filter_le _ _) hwl
  show Pur Tryz.prog GG 8 [.agg [I a, I b, I c], WT w.p w.q w.r w.s w.t w.u w.v, s1, s2] _
  refine goQ e8 TOk.nil 0 ?_ (by simp [AV.purL, AV.pur, h1, h2])
  simp (maxSteps := 2000000) only [push_cast, seval, ↓kw2]
  refine allA_ac w q1 q2 h p1 p2 hh ?_
  intro s H1 hseg hnil hrow hkp hlo
  have g0 : H1[0]? = some (.cells [I a, I b, I c]) := hkp 0 (by simp)
  refine goN ?_
  simp (maxSteps := 2000000) only [push_cast, seval, ↓kw2, g0]
  refine compare_ac q1.cell ?_
  generalize hF : (wholeL a b c w).filter hold = F at hseg hokF hFl ⊢
  cases hseg with
  | nil =>
    refine goN ?_
    simp (maxSteps := 2000000) only [push_cast, seval, ↓kw2]
    refine AC.sortNone callableSP sortsNoneP ?_
    have hw0 : wholeL a b c w = [] := Classical.byContradiction fun e => by obtain ⟨_, _, _, e2⟩ := hrow e; cases e2
    refine goN ?_
    simp (maxSteps := 2000000) only [push_cast, seval, ↓kw2]
    refine ⟨_, rfl, ?_⟩
    unfold rkl
    rw [if_pos hw0]
    exact done_pur rfl rfl
  | row hid hn hr hc ht =>
    rename_i id n cap rs
    have hw0 : ¬wholeL a b c w = [] := fun e => by have := hnil e; cases this
    have hidl := lt_of_get hid
    have hrs : rs = F.map Plc.av ++ rs.drop n := by rw [← ht, List.take_append_drop]
    refine goN ?_
    simp (maxSteps := 2000000) only [push_cast, seval, ↓kw2]
    refine sortM_ac (x := ⟨a, b, c, sc, s1, H1.length, H1.length + 4, H1.length + 3, H1.length + 1, H1.length + 2, id, n, cap, rs.drop n⟩) (d := F.toArray) ⟨q1.cell, by show n ≤ 2 ^ 20; omega⟩ ⟨?_, by simp [hn], getA0, getA, getA, getA, ⟨[], 0, getA, fun e he => by cases he⟩, fun X hX => hsc X (hokF X (by simpa using hX))⟩ ?_
    · show (H1 ++ _)[id]? = some (.arr 9 (F.toArray.toList.map Plc.av ++ rs.drop n))
      rw [List.getElem?_append_left hidl, hid]
      exact congrArg (fun q => some (AO.arr 9 q)) hrs
    · intro H2 d' h' pp ss st
      have hd' := rank_of (x := ⟨a, b, c, sc, s1, H1.length, H1.length + 4, H1.length + 3, H1.length + 1, H1.length + 2, id, n, cap, rs.drop n⟩) (F := F) (by show F.length = n; omega) hokF pp ss
      have hrow2 := h'.row
      have hdn : d'.toList.length = n := by rw [Array.length_toList]; exact h'.n
      refine goN ?_
      simp (maxSteps := 2000000) only [push_cast, seval, ↓kw2]
      refine ⟨_, rfl, ?_⟩
      unfold rkl
      rw [if_neg hw0, ← hd']
      have htk : (d'.toList.map Plc.av ++ rs.drop n).take n = d'.toList.map Plc.av := by rw [List.take_append_of_le_length (by rw [List.length_map]; omega), List.take_of_length_le (by rw [List.length_map]; omega)]
      have := seg_done2 (k := 9) (n := n) (cap := cap) (v := I 0) (es := d'.toList.map Plc.av ++ rs.drop n) hrow2 (by rw [List.length_append, List.length_map]; omega) (by rw [htk]; exact purL_map Plc.av _ (fun _ => rfl)) rfl
      rw [htk] at this
      exact this
end Go.Ab.Pd

set_option linter.unusedSimpArgs false
set_option linter.unusedVariables false
namespace Go.Ab.Pd
open Go.Proofs
theorem all_told (a b c : Int) (w : Wnt) {s1 s2 : AV} (q1 : IsSet s1) (q2 : IsSet s2) :
    Pur Tryz.prog GG 14 [.agg [I a, I b, I c], w.av, s1, s2] (.tup [.c (.slice none 0 0), I 8]) ∨
    ∃ xs ys : List Int, (∀ w ∈ xs, inU w) ∧ (∀ w ∈ ys, inU w) ∧ s1 = .isl (xs.map U) ∧ s2 = .isl (ys.map U) ∧ schk (manyV a b c) xs = 0 ∧ schk (3 * manyV a b c) ys = 0 ∧ dwchk a b c w.p w.q w.r = 0 := by
  by_cases h : dwchk a b c w.p w.q w.r = 0
  · rcases set_told q1 (manyV a b c) with ⟨e1, n1, p1⟩ | ⟨xs, hx, rfl, c1⟩
    · obtain ⟨e2, p2, _⟩ := check_ex q2 (3 * manyV a b c)
      exact .inl (spotsA_sets w q1 q2 h p1 p2 fun hh => n1 hh.1)
    · rcases set_told q2 (3 * manyV a b c) with ⟨e2, n2, p2⟩ | ⟨ys, hy, rfl, c2⟩
      · exact .inl (spotsA_sets w q1 q2 h (check_of c1) p2 fun hh => n2 hh.2)
      · exact .inr ⟨xs, ys, hx, hy, rfl, rfl, c1, c2, h⟩
  · have := spotsA_bad w q1 q2 h
    rw [dwchk_8 h] at this
    exact .inl this
theorem rank_is {a b c : Int} (w : Wnt) {xs ys : List Int} (hx : ∀ w ∈ xs, inU w) (hy : ∀ w ∈ ys, inU w) (c1 : schk (manyV a b c) xs = 0) (c2 : schk (3 * manyV a b c) ys = 0) (h : dwchk a b c w.p w.q w.r = 0) :
    Pur Tryz.prog GG 8 [.agg [I a, I b, I c], w.av, .isl (xs.map U), .isl (ys.map U)] (.tup [rkl a b c w (rankL a b c (scV a b c xs) ((wholeL a b c w).filter (holdV a b c xs ys))), I 0]) :=
  rank_ok w (IsSet.isl hx) (IsSet.isl hy) h (check_of c1) (check_of c2) (fun x hk => holds_is hx hy c1 c2 x hk) fun x hk => scV_pur hx c1 hk
section
variable {a b c : Int} {sc : Plc → Int} {F : List Plc}
theorem rank_mem {X : Plc} : X ∈ rankL a b c sc F ↔ X ∈ F := (rankL_perm F).mem_iff
theorem rank_len : (rankL a b c sc F).length = F.length := (rankL_perm F).length_eq
theorem rank_lt (hok : ∀ X ∈ F, X.ok a b c) (hnd : F.Nodup) {i j : Nat} (hij : i < j) (hj : j < (rankL a b c sc F).length) : cmpS a b c sc ((rankL a b c sc F).getD i default) ((rankL a b c sc F).getD j default) < 0 := by
  have h := List.pairwise_iff_getElem.1 (rankL_pw (a := a) (b := b) (c := c) (sc := sc) F) i j (by omega) hj hij
  have hn := List.pairwise_iff_getElem.1 ((rankL_perm (a := a) (b := b) (c := c) (sc := sc) F).nodup_iff.2 hnd) i j (by omega) hj hij
  have ei : (rankL a b c sc F).getD i default = (rankL a b c sc F)[i]'(by omega) := by simp [List.getD, (by omega : i < (rankL a b c sc F).length)]
  have ej : (rankL a b c sc F).getD j default = (rankL a b c sc F)[j]'hj := by simp [List.getD, hj]
  rw [ei, ej]
  have mi : (rankL a b c sc F)[i]'(by omega) ∈ F := rank_mem.1 (List.getElem_mem _)
  have mj : (rankL a b c sc F)[j]'hj ∈ F := rank_mem.1 (List.getElem_mem _)
  rw [decide_eq_true_eq] at h
  exact Classical.byContradiction fun hc => hn (cmpS_zero (sc := sc) (hok _ mi) (hok _ mj) (Int.le_antisymm h (Int.not_lt.1 hc)))
theorem rank_head (hok : ∀ X ∈ F, X.ok a b c) (hnd : F.Nodup) (h0 : 0 < F.length) : minF a b c sc F = (rankL a b c sc F).getD 0 default := by
  have hl : 0 < (rankL a b c sc F).length := by rw [rank_len]; exact h0
  have e0 : (rankL a b c sc F).getD 0 default = (rankL a b c sc F)[0]'hl := by simp [List.getD, hl]
  refine minF_is (rank_mem.1 (by rw [e0]; exact List.getElem_mem _)) hok fun y hy => ?_
  obtain ⟨j, hj, rfl⟩ := List.getElem_of_mem (rank_mem (a := a) (b := b) (c := c) (sc := sc).2 hy)
  by_cases h : j = 0
  · subst h
    rw [e0, cmpS_self]
    exact Int.le_refl _
  · have := rank_lt (sc := sc) hok hnd (i := 0) (j := j) (by omega) hj
    rw [show (rankL a b c sc F).getD j default = (rankL a b c sc F)[j] by simp [List.getD, hj]] at this
    omega
end
theorem betterS {a b c : Int} {xs : List Int} (hx : ∀ w ∈ xs, inU w) (hd : okD a b c) (c1 : schk (manyV a b c) xs = 0) {X Y : Plc} (hX : X.ok a b c) (hY : Y.ok a b c) :
    Pur Tryz.prog GG 10 [.agg [I a, I b, I c], X.av, Y.av, .isl (xs.map U)] (.tup [B (decide (cmpS a b c (scV a b c xs) X Y < 0)), I 0]) :=
  better_of (IsSet.isl hx) hd (check_of c1) (ok_pchk hX) (ok_pchk hY) (scV_pur hx c1 hX) (scV_pur hx c1 hY) fun h => congrArg (scV a b c xs) (Plc.same.1 h).symm
theorem toVB {f : FuncId} {args : List AV} {v : AV} (h : Pur Tryz.prog GG f args v) : PurV Tryz.prog GG (.fn f [] []) args v := Pur.toV (by simpa using h)
theorem any_all {F : List Plc} {x : Plc} (h : x ∈ F) : (F.any fun y => decide (y = x)) = true := List.any_eq_true.2 ⟨x, h, decide_eq_true rfl⟩
theorem e4 : Ent Tryz.prog 4 Tryz.f4 [] 4 := ⟨Tryz.func4, rfl, by decide, by kernel_rfl, by kernel_rfl, by decide, by kernel_rfl⟩
attribute [push_cast] Tryz.f4
set_option maxHeartbeats 16000000 in
set_option maxRecDepth 400000 in
theorem bestRank_law (a b c : Int) (w : Wnt) {s1 s2 : AV} (q1 : IsSet s1) (q2 : IsSet s2) : Pur Tryz.prog GG 4 [.agg [I a, I b, I c], w.av, s1, s2] (B true) := by
  have h1 := q1.pur
  have h2 := q2.pur
  obtain ⟨L1, hL1⟩ := q1.len
  obtain ⟨L2, hL2⟩ := q2.len
  have hsm := small_pur a b c
  show Pur Tryz.prog GG 4 [.agg [I a, I b, I c], WT w.p w.q w.r w.s w.t w.u w.v, s1, s2] _
  by_cases g1 : 100 < L1
  · skip
    refine goQ e4 TOk.nil 0 ?_ (by simp [AV.purL, AV.pur, h1, h2])
    simp (maxSteps := 2000000) only [push_cast, seval, ↓kw2]
    refine AC.pur alive15 ?_
    refine goN ?_
    simp (maxSteps := 2000000) only [push_cast, seval, ↓kw2, hL1, hL2, g1]
    exact ⟨_, rfl, done_pur rfl rfl⟩
  by_cases g2 : 100 < L2
  · skip
    refine goQ e4 TOk.nil 0 ?_ (by simp [AV.purL, AV.pur, h1, h2])
    simp (maxSteps := 2000000) only [push_cast, seval, ↓kw2]
    refine AC.pur alive15 ?_
    refine goN ?_
    simp (maxSteps := 2000000) only [push_cast, seval, ↓kw2, hL1, hL2, g1, g2]
    exact ⟨_, rfl, done_pur rfl rfl⟩
  cases g3 : smallV a b c
  · rw [g3] at hsm
    refine goQ e4 TOk.nil 0 ?_ (by simp [AV.purL, AV.pur, h1, h2])
    simp (maxSteps := 2000000) only [push_cast, seval, ↓kw2]
    refine AC.pur alive15 ?_
    refine goN ?_
    simp (maxSteps := 2000000) only [push_cast, seval, ↓kw2, hL1, hL2, g1, g2]
    refine AC.pur hsm ?_
    refine goN ?_
    simp (maxSteps := 2000000) only [push_cast, seval, ↓kw2]
    exact ⟨_, rfl, done_pur rfl rfl⟩
  rw [g3] at hsm
  refine goQ e4 TOk.nil 0 ?_ (by simp [AV.purL, AV.pur, h1, h2])
  simp (maxSteps := 2000000) only [push_cast, seval, ↓kw2]
  refine AC.pur alive15 ?_
  refine goN ?_
  simp (maxSteps := 2000000) only [push_cast, seval, ↓kw2, hL1, hL2, g1, g2]
  refine AC.pur hsm ?_
  refine goN ?_
  simp (maxSteps := 2000000) only [push_cast, seval, ↓kw2]
  rcases all_told a b c w q1 q2 with hA | ⟨xs, ys, hx, hy, rfl, rfl, c1, c2, hdw⟩
  · refine AC.pur (rank_err q1 q2 (by decide) hA) ?_
    refine goN ?_
    simp (maxSteps := 2000000) only [push_cast, seval, ↓kw2]
    refine AC.pur hA ?_
    refine goN ?_
    simp (maxSteps := 2000000) only [push_cast, seval, ↓kw2]
    refine AC.pur (best_err q1 q2 (by decide) hA) ?_
    refine goN ?_
    simp (maxSteps := 2000000) only [push_cast, seval, ↓kw2]
    exact ⟨_, rfl, done_pur rfl rfl⟩
  have hd := (dwchk_ok.1 hdw).1
  have hR := rank_is w hx hy c1 c2 hdw
  have hM := allS w hx hy c1 c2 hdw
  have hB := best_is w hx hy c1 c2 hdw
  have hRs := rkl_is (a := a) (b := b) (c := c) (w := w) (sc := scV a b c xs) (holdV a b c xs ys)
  have hMs := rsl_is (a := a) (b := b) (c := c) (w := w) (holdV a b c xs ys)
  have hle := Nat.le_trans (List.length_filter_le (holdV a b c xs ys) (wholeL a b c w)) (whole_le hd w)
  have hok : ∀ X ∈ (wholeL a b c w).filter (holdV a b c xs ys), X.ok a b c := fun X hX => ((wholeL_mem hd).1 (List.mem_filter.1 hX).1).1
  have hnd : ((wholeL a b c w).filter (holdV a b c xs ys)).Nodup := (whole_rises a b c w).nodup.filter _
  generalize hFd : (wholeL a b c w).filter (holdV a b c xs ys) = F at hR hM hB hRs hMs hle hok hnd
  generalize rkl a b c w (rankL a b c (scV a b c xs) F) = R at hR hRs
  generalize rsl a b c w F = M at hM hMs
  have hRl := hRs.len (P := Tryz.prog) un39
  have hMl := hMs.len (P := Tryz.prog) un39
  rw [List.length_map, rank_len] at hRl
  rw [List.length_map] at hMl
  by_cases hF : F = []
  · rw [if_pos hF, if_pos hF] at hB
    subst hF
    refine AC.pur hR ?_
    refine goN ?_
    simp (maxSteps := 2000000) only [push_cast, seval, ↓kw2]
    refine AC.pur hM ?_
    refine goN ?_
    simp (maxSteps := 2000000) only [push_cast, seval, ↓kw2]
    refine AC.pur hB ?_
    refine goN ?_
    simp (maxSteps := 2000000) only [push_cast, seval, ↓kw2, hRl, hMl, Plc.av, List.length_nil]
    exact ⟨_, rfl, done_pur rfl rfl⟩
  rw [if_neg hF, if_neg hF] at hB
  have hF0 : 0 < F.length := List.length_pos_iff.2 hF
  rw [rank_head hok hnd hF0] at hB
  have hLl : (rankL a b c (scV a b c xs) F).length = F.length := rank_len
  have hRi := fun (i : Nat) (hi : i < F.length) (H : List AO) => hRs.idx (P := Tryz.prog) un39 sz32 (i := (i : Int)) (by rw [List.length_map]; omega) (by omega) H
  have hMi := fun (i : Nat) (hi : i < F.length) (H : List AO) => hMs.idx (P := Tryz.prog) un39 sz32 (i := (i : Int)) (by rw [List.length_map]; omega) (by omega) H
  have hlt := fun i j hij hj => rank_lt (sc := scV a b c xs) hok hnd (i := i) (j := j) hij hj
  have hmem := fun (i : Nat) (hi : i < F.length) => show (rankL a b c (scV a b c xs) F).getD i default ∈ F from rank_mem.1 (by rw [show (rankL a b c (scV a b c xs) F).getD i default = (rankL a b c (scV a b c xs) F)[i]'(by omega) by simp [List.getD, (by omega : i < (rankL a b c (scV a b c xs) F).length)]]; exact List.getElem_mem _)
  have hgR := fun (i : Nat) (hi : i < F.length) => getD_map Plc.av (rankL a b c (scV a b c xs) F) default (i := i) (by omega)
  generalize hL : rankL a b c (scV a b c xs) F = L at hRs hRi hlt hmem hgR hB hLl
  have hb0 := hmem 0 hF0
  generalize hbp : L.getD 0 default = bp at hB hb0
  have hcb := Plc.cells bp
  refine AC.pur hR ?_
  refine goN ?_
  simp (maxSteps := 2000000) only [push_cast, seval, ↓kw2]
  refine AC.pur hM ?_
  refine goN ?_
  simp (maxSteps := 2000000) only [push_cast, seval, ↓kw2]
  refine AC.pur hB ?_
  have hn0 : decide ((F.length : Int) = 0) = false := decide_eq_false (by omega)
  have hnn : decide ((F.length : Int) ≠ (F.length : Int)) = false := decide_eq_false (by simp)
  refine goN ?_
  simp (maxSteps := 2000000) only [push_cast, seval, ↓kw2, hRl, hMl, Plc.av, hn0, hnn]
  refine FW.loopInv (fun m ts H => ∃ i : Nat, i + m = F.length ∧ H[0]? = some (.cells [I a, I b, I c]) ∧ H[2]? = some (.cells [I bp.x, I bp.y, I bp.z, I bp.p, I bp.q, I bp.r, B bp.s, B bp.t, B bp.u]) ∧ ts 2 = .isl (xs.map U) ∧ ts 4 = .ptr 0 0 ∧ ts 10 = R ∧ ts 12 = M ∧ ts 14 = .ptr 2 0 ∧ ts 15 = I 0 ∧ ts 16 = I (i : Int)) F.length
    ⟨0, by omega, rfl, rfl, rfl, rfl, rfl, rfl, rfl, rfl, rfl⟩ ?_
  rintro m ih ts H ⟨i, hi, m0, m2, t2, t4, t10, t12, t14, t15, t16⟩
  refine FW.inLoop ?_
  have wi := wrapL (n := (i : Int) + 1) (by omega) (by omega)
  by_cases hlt1 : i < F.length
  · have d1 : decide ((i : Int) < (F.length : Int)) = true := decide_eq_true (by omega)
    have hxi := hRi i hlt1
    rw [Int.toNat_natCast, hgR i hlt1] at hxi
    have hxm := hmem i hlt1
    generalize hX : L.getD i default = X at hxi hxm
    have cX := Plc.cells X
    refine goN ?_
    simp (maxSteps := 2000000) only [push_cast, seval, ↓kw2, t2, t4, t10, t12, t14, t15, t16, hRl, d1]
    refine FW.loopInv (fun m ts H => ∃ k : Nat, k + m = F.length ∧ H[0]? = some (.cells [I a, I b, I c]) ∧ H[2]? = some (.cells [I bp.x, I bp.y, I bp.z, I bp.p, I bp.q, I bp.r, B bp.s, B bp.t, B bp.u]) ∧ ts 2 = .isl (xs.map U) ∧ ts 4 = .ptr 0 0 ∧ ts 10 = R ∧ ts 12 = M ∧ ts 14 = .ptr 2 0 ∧ ts 15 = I 0 ∧ ts 16 = I (i : Int) ∧ ts 17 = B ((F.take k).any fun y => decide (y = X)) ∧ ts 18 = I (k : Int)) F.length
      ⟨0, by omega, m0, m2, t2, t4, t10, t12, t14, t15, t16, rfl, rfl⟩ ?_
    clear m0 m2 t2 t4 t10 t12 t14 t15 t16
    rintro m2' ih2 ts H ⟨k, hk, m0, m2, t2, t4, t10, t12, t14, t15, t16, t17, t18⟩
    refine FW.inLoop ?_
    have wk := wrapL (n := (k : Int) + 1) (by omega) (by omega)
    by_cases hlt2 : k < F.length
    · have d2 : decide ((k : Int) < (F.length : Int)) = true := decide_eq_true (by omega)
      have hyi := hMi k hlt2
      rw [Int.toNat_natCast, getD_map Plc.av F default hlt2] at hyi
      have htk := take_succ_getD default hlt2
      generalize F.getD k default = Y at hyi htk
      have cY := Plc.cells Y
      have heq : aEqS Tryz.prog 32 (.agg [I Y.x, I Y.y, I Y.z, I Y.p, I Y.q, I Y.r, B Y.s, B Y.t, B Y.u]) (.agg [I X.x, I X.y, I X.z, I X.p, I X.q, I X.r, B X.s, B X.t, B X.u]) = some (decide (Y = X)) := Plc.eq Y X
      have hst : ((F.take (k + 1)).any fun y => decide (y = X)) = (((F.take k).any fun y => decide (y = X)) || decide (Y = X)) := by rw [htk, List.any_append]; simp
      have hbbM : (0 ≤ (k : Int) ∧ (k : Int) < ((List.map Plc.av F).length : Int)) := ⟨by omega, by rw [List.length_map]; omega⟩
      have hbbR : (0 ≤ (i : Int) ∧ (i : Int) < ((List.map Plc.av L).length : Int)) := ⟨by omega, by rw [List.length_map]; omega⟩
      cases hv : (F.take k).any fun y => decide (y = X)
      · rw [hv] at t17 hst
        rw [Bool.false_or] at hst
        refine goN ?_
        simp (maxSteps := 2000000) only [push_cast, seval, ↓kw2, t2, t4, t10, t12, t14, t15, t16, t17, t18, hMl, d2, hxi, hyi, cX, cY, heq, aBinAgg, wk, Plc.av]
        refine ⟨hbbM, hbbR, ?_⟩
        refine ih2 (m2' - 1) (by omega) _ _ ?_
        exact ⟨k + 1, by omega, m0, m2, t2, t4, t10, t12, t14, t15, t16, by rw [hst]; rfl, rfl⟩
      · rw [hv] at t17 hst
        rw [Bool.true_or] at hst
        refine goN ?_
        simp (maxSteps := 2000000) only [push_cast, seval, ↓kw2, t2, t4, t10, t12, t14, t15, t16, t17, t18, hMl, d2, wk]
        refine ih2 (m2' - 1) (by omega) _ _ ?_
        exact ⟨k + 1, by omega, m0, m2, t2, t4, t10, t12, t14, t15, t16, by rw [hst]; rfl, rfl⟩
    · have d2 : decide ((k : Int) < (F.length : Int)) = false := decide_eq_false (by omega)
      rw [List.take_of_length_le (by omega), any_all hxm] at t17
      by_cases hi0 : 0 < i
      · have d3 : decide (0 < (i : Int)) = true := decide_eq_true (by omega)
        obtain ⟨q, hq⟩ : ∃ q, q = i - 1 := ⟨_, rfl⟩
        have wq : IntKind.i64.wrap ((i : Int) - 1) = (q : Int) := by rw [wrapL (n := (i : Int) - 1) (by omega) (by omega)]; omega
        have hzi := hRi q (by omega)
        rw [Int.toNat_natCast, hgR q (by omega)] at hzi
        have hzm := hmem q (by omega)
        have hcmp := hlt q i (by omega) (by omega)
        rw [hX] at hcmp
        generalize L.getD q default = Z at hzi hzm hcmp
        have cZ := Plc.cells Z
        have hBt := betterS hx hd c1 (hok _ hzm) (hok _ hxm)
        rw [decide_eq_true hcmp] at hBt
        have hbbQ : (0 ≤ (q : Int) ∧ (q : Int) < ((List.map Plc.av L).length : Int)) := ⟨by omega, by rw [List.length_map]; omega⟩
        have hbbR : (0 ≤ (i : Int) ∧ (i : Int) < ((List.map Plc.av L).length : Int)) := ⟨by omega, by rw [List.length_map]; omega⟩
        refine goN ?_
        simp (maxSteps := 2000000) only [push_cast, seval, ↓kw2, t2, t4, t10, t12, t14, t15, t16, t17, t18, hMl, d2, d3, gt_iff_lt, wq, m0, hzi, hxi, cZ, cX, Plc.av]
        refine ⟨hbbQ, hbbR, _, toVB hBt, ?_⟩
        simp (maxSteps := 2000000) only [push_cast, seval, ↓kw2, t2, t4, t10, t12, t14, t15, t16, t17, t18, wi]
        refine ih (m - 1) (by omega) _ _ ?_
        exact ⟨i + 1, by omega, m0, m2, t2, t4, t10, t12, t14, t15, rfl⟩
      · have d3 : decide (0 < (i : Int)) = false := decide_eq_false (by omega)
        refine goN ?_
        simp (maxSteps := 2000000) only [push_cast, seval, ↓kw2, t2, t4, t10, t12, t14, t15, t16, t17, t18, hMl, d2, d3, gt_iff_lt, wi]
        refine ih (m - 1) (by omega) _ _ ?_
        exact ⟨i + 1, by omega, m0, m2, t2, t4, t10, t12, t14, t15, rfl⟩
  · have d1 : decide ((i : Int) < (F.length : Int)) = false := decide_eq_false (by omega)
    have h0i := hRi 0 hF0
    rw [Int.toNat_natCast, hgR 0 hF0, hbp] at h0i
    simp only [natc0] at h0i
    have heq : aEqS Tryz.prog 32 (.agg [I bp.x, I bp.y, I bp.z, I bp.p, I bp.q, I bp.r, B bp.s, B bp.t, B bp.u]) (.agg [I bp.x, I bp.y, I bp.z, I bp.p, I bp.q, I bp.r, B bp.s, B bp.t, B bp.u]) = some (decide (bp = bp)) := Plc.eq bp bp
    rw [decide_eq_true rfl] at heq
    refine goN ?_
    simp (maxSteps := 2000000) only [push_cast, seval, ↓kw2, t2, t4, t10, t12, t14, t15, t16, hRl, d1, h0i, hcb, heq, m2, aBinAgg, Plc.av]
    refine ⟨by rw [List.length_map]; omega, ?_⟩
    exact ⟨_, rfl, done_pur rfl rfl⟩
end Go.Ab.Pd
