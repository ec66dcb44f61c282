/- One of the texts that this claim stands on. -/
import Derived.Test.YtfiglmdmnfdldaaGreatDoorEv42
import Derived.Test.YtfiglmdmnfdldaaGreatDoorEv46
import Derived.Test.YtfiglmdmnfdldaaGreatDoorEv45
import Derived.Test.YtfiglmdmnfdldaaGreatDoorEv40
set_option linter.unusedVariables false
set_option linter.unusedSimpArgs false
set_option linter.unusedSimpArgs false
set_option linter.unusedVariables false
namespace Go.Ab.Pd
open Go.Proofs
theorem words_ext {xs ys : List Int} (hx : ∀ w ∈ xs, inU w) (hy : ∀ w ∈ ys, inU w) (hl : xs.length = ys.length) (h : ∀ m, bitAt xs m = bitAt ys m) : xs = ys := by
  refine List.ext_getElem hl fun i h1 h2 => ?_
  have u1 := hx _ (List.getElem_mem h1)
  have u2 := hy _ (List.getElem_mem h2)
  have : (xs[i]).toNat = (ys[i]).toNat := Nat.eq_of_testBit_eq fun j => by
    by_cases hj : j < 64
    · have := h (64 * i + j)
      unfold bitAt at this
      rw [show (64 * i + j) / 64 = i by omega, show (64 * i + j) % 64 = j by omega, show xs.getD i 0 = xs[i] by simp [List.getD, h1], show ys.getD i 0 = ys[i] by simp [List.getD, h2]] at this
      exact this
    · rw [Nat.testBit_lt_two_pow (Nat.lt_of_lt_of_le (lt_U u1) (Nat.pow_le_pow_right (by decide) (by omega))), Nat.testBit_lt_two_pow (Nat.lt_of_lt_of_le (lt_U u2) (Nat.pow_le_pow_right (by decide) (by omega)))]
  unfold inU at u1 u2
  omega
theorem own_srt {n : Int} (hn : 1 ≤ n ∧ n ≤ 12288) {l : List Int} (hl : ∀ k ∈ l, 0 ≤ k ∧ k < n) : ofL n (srt l) = ofL n l :=
  words_ext (ofL_inU _ _) (ofL_inU _ _) (by rw [ofL_length, ofL_length]) fun m => by
    rw [ofL_bit hn (fun k hk => hl k (srt_mem.1 hk)), ofL_bit hn hl]
    exact decide_eq_decide.2 srt_mem
theorem andn_sub {xs ys : List Int} (hx : ∀ w ∈ xs, inU w) {m : Nat} (h : bitAt (List.zipWith andnV xs ys) m = true) : bitAt xs m = true := by
  by_cases h1 : m / 64 < xs.length
  · by_cases h2 : m / 64 < ys.length
    · have e : (List.zipWith andnV xs ys).getD (m / 64) 0 = andnV (xs.getD (m / 64) 0) (ys.getD (m / 64) 0) := by
        simp [List.getD, List.getElem?_zipWith, h1, h2]
      unfold bitAt at h ⊢
      rw [e] at h
      have hu := getD_inU hx (m / 64)
      generalize xs.getD (m / 64) 0 = x at h hu
      unfold andnV at h
      rw [BitVec.toNat_and, toNat_U hu] at h
      have hle := Nat.and_le_left (n := x.toNat) (m := (~~~BitVec.ofInt IntKind.u64.bits (ys.getD (m / 64) 0)).toNat)
      have := lt_U hu
      rw [wrapU (nU (by omega)), Int.toNat_natCast, Nat.testBit_and, Bool.and_eq_true] at h
      exact h.1
    · rw [bitAt_out (by rw [List.length_zipWith]; omega)] at h; cases h
  · rw [bitAt_out (by rw [List.length_zipWith]; omega)] at h; cases h
theorem schk_andn {n : Int} {xs ys : List Int} (hx : ∀ w ∈ xs, inU w) (hl : ys.length = xs.length) (h1 : schk n xs = 0) : schk n (List.zipWith andnV xs ys) = 0 := by
  obtain ⟨hn, l1, b1⟩ := (schk_bits hx).1 h1
  refine (schk_bits (zip_inU andn_inU xs ys)).2 ⟨hn, by rw [List.length_zipWith]; omega, fun m hm => ?_⟩
  cases h : bitAt (List.zipWith andnV xs ys) m
  · rfl
  · have h2 := andn_sub hx h
    rw [b1 m hm] at h2
    cases h2
def sumC (ws : List Int) : Int := ((ws.map fun w => On.ones w.toNat).sum : Nat)
theorem manyW_sum {ws : List Int} (h : ∀ w ∈ ws, inU w) (hl : ws.length ≤ 2 ^ 16) : manyW ws = sumC ws := by
  obtain ⟨e, _⟩ := many_fold (acc := 0) h (by omega) (by omega)
  rw [Int.zero_add] at e
  exact e
def othW (n : Int) (ws : List Int) : List Int := List.zipWith andnV (ofL n (allL n)) ws
def scV (a b c : Int) (ws : List Int) (x : Plc) : Int :=
  IntKind.i64.wrap (IntKind.i64.wrap (2 * (listL (ofL (manyV a b c) (nodesL a b c x.x x.y x.z x.p x.q x.r))).foldl (stepM a b c (inS (manyV a b c) (List.zipWith andnV (othW (manyV a b c) ws) (ofL (manyV a b c) (nodesL a b c x.x x.y x.z x.p x.q x.r))))) 0)
    + sumC (ofL (3 * manyV a b c) (linksL a b c x.x x.y x.z x.p x.q x.r x.s x.t x.u)))
theorem scV_pur {a b c : Int} {ws : List Int} (hw : ∀ w ∈ ws, inU w) (hc : schk (manyV a b c) ws = 0) {X : Plc} (hp : X.ok a b c) : Pur Tryz.prog GG 15 [.agg [I a, I b, I c], X.av, .isl (ws.map U)] (.tup [I (scV a b c ws X), I 0]) := by
  obtain ⟨x, y, z, p, q, r, s, t, u⟩ := X
  have hd := hp.1
  have hb := hp.2.1
  have hmu := okD_mul hd
  have hmv : manyV a b c = a * b * c := by rw [manyV, if_pos hd]
  obtain ⟨hN1, lw, _⟩ := (schk_bits hw).1 hc
  have hN2 : 1 ≤ 3 * manyV a b c ∧ 3 * manyV a b c ≤ 12288 := by omega
  have hn : 1 ≤ manyV a b c ∧ manyV a b c ≤ 4096 := by omega
  have wv1 : wordsV (manyV a b c) = (manyV a b c + 63) / 64 := by rw [wordsV, if_pos (by omega)]
  have wv2 : wordsV (3 * manyV a b c) = (3 * manyV a b c + 63) / 64 := by rw [wordsV, if_pos (by omega)]
  have hlo : ∀ k ∈ nodesL a b c x y z p q r, 0 ≤ k ∧ k < manyV a b c := fun k hk => by rw [hmv]; exact (nodes_mem hd hb hk).2
  have hll : ∀ k ∈ linksL a b c x y z p q r s t u, 0 ≤ k ∧ k < 3 * manyV a b c := fun k hk => by rw [hmv]; exact links_mem hd hb k hk
  have hla : ∀ k ∈ allL (manyV a b c), 0 ≤ k ∧ k < manyV a b c := fun k hk => allL_mem hk
  have eo : ownW a b c x y z p q r = ofL (manyV a b c) (nodesL a b c x y z p q r) := own_srt hN1 hlo
  have lo := ofL_length (manyV a b c) (nodesL a b c x y z p q r)
  have la := ofL_length (manyV a b c) (allL (manyV a b c))
  have ll := ofL_length (3 * manyV a b c) (linksL a b c x y z p q r s t u)
  have io := ofL_inU (manyV a b c) (nodesL a b c x y z p q r)
  have ia := ofL_inU (manyV a b c) (allL (manyV a b c))
  have il := ofL_inU (3 * manyV a b c) (linksL a b c x y z p q r s t u)
  have so := schk_ofL hN1 hlo
  have sa := schk_ofL hN1 hla
  have sl := schk_ofL hN2 hll
  have pw := scheck_pur (manyV a b c) ws
  rw [hc] at pw
  have po := scheck_pur (manyV a b c) (ofL (manyV a b c) (nodesL a b c x y z p q r))
  rw [so] at po
  have pa := scheck_pur (manyV a b c) (ofL (manyV a b c) (allL (manyV a b c)))
  rw [sa] at pa
  have pl := scheck_pur (3 * manyV a b c) (ofL (3 * manyV a b c) (linksL a b c x y z p q r s t u))
  rw [sl] at pl
  have h1 := less_is (manyV a b c) ia hw (by omega) (by omega) (by omega) pa pw
  have ioth : ∀ w ∈ othW (manyV a b c) ws, inU w := zip_inU andn_inU _ _
  have loth : (othW (manyV a b c) ws).length = ws.length := by unfold othW; rw [List.length_zipWith]; omega
  have soth : schk (manyV a b c) (othW (manyV a b c) ws) = 0 := schk_andn ia (by omega) sa
  have ho := others_of hn (IsSet.isl hw) (IsSet.isl ioth) h1
  have pt := scheck_pur (manyV a b c) (othW (manyV a b c) ws)
  rw [soth] at pt
  have h2 := less_is (manyV a b c) ioth io (by omega) (by omega) (by omega) pt po
  have hifr : ∀ w ∈ List.zipWith andnV (othW (manyV a b c) ws) (ofL (manyV a b c) (nodesL a b c x y z p q r)), inU w := zip_inU andn_inU _ _
  have sfr := schk_andn (ys := ofL (manyV a b c) (nodesL a b c x y z p q r)) ioth (by omega) soth
  have hm := smany_ok (3 * manyV a b c) (ws := ofL (3 * manyV a b c) (linksL a b c x y z p q r s t u)) (by omega) pl
  rw [manyW_sum il (by omega)] at hm
  have hli := list_is (manyV a b c) io (by omega) po
  have hle := listL_length (ofL (manyV a b c) (nodesL a b c x y z p q r))
  have hop := open_of a b c (manyV a b c) (IsSet.isl io) (IsSet.isl hifr) (by omega) hli (has := inS (manyV a b c) _) fun k => ⟨0, has_is hifr sfr k⟩
  rw [← eo] at h2 hop
  have hfin := score_of (x := x) (y := y) (z := z) (p := p) (q := q) (r := r) (s := s) (t := t) (u := u) hp (IsSet.isl hw) pw (IsSet.isl ioth) (IsSet.isl (by rw [eo]; exact hifr)) ho h2 hm hop
  unfold scV
  simp only
  rw [← eo]
  exact hfin
end Go.Ab.Pd

set_option linter.unusedSimpArgs false
set_option linter.unusedVariables false
namespace Go.Ab.Pd
open Go.Proofs
section
variable {a b c : Int} {sc : Plc → Int}
theorem cmpS_neg (X Y : Plc) : cmpS a b c sc Y X = -cmpS a b c sc X Y := cmp2_neg ..
theorem cmpS_tri (X Y Z : Plc) : Tri (cmpS a b c sc X Y) (cmpS a b c sc Y Z) (cmpS a b c sc X Z) := Tri.cmp2 ..
theorem cmpS_self (X : Plc) : cmpS a b c sc X X = 0 := cmp2_self ..
theorem cmpS_zero {X Y : Plc} (hX : X.ok a b c) (hY : Y.ok a b c) (h : cmpS a b c sc X Y = 0) : X = Y := Plc.same.1 (cmp2_zero hX hY h)
theorem cmpS_trans {X Y Z : Plc} (h : 0 ≤ cmpS a b c sc X Y) (k : 0 ≤ cmpS a b c sc Y Z) : 0 ≤ cmpS a b c sc X Z := by
  have t := cmpS_tri (a := a) (b := b) (c := c) (sc := sc) Z Y X
  rw [cmpS_neg Y Z, cmpS_neg X Y, cmpS_neg X Z] at t
  obtain ⟨t1, t2, t3⟩ := t
  by_cases h1 : cmpS a b c sc X Y = 0
  · by_cases h2 : cmpS a b c sc Y Z = 0
    · have := t3 (by omega) (by omega); omega
    · have := t1 (by omega) (by omega); omega
  · have := t2 (by omega) (by omega); omega
theorem minL_least : ∀ (l : List Plc) (m : Plc), minL (ltS a b c sc) m l ∈ m :: l ∧ ∀ y ∈ m :: l, 0 ≤ cmpS a b c sc y (minL (ltS a b c sc) m l)
  | [], m => ⟨by simp [minL], fun y hy => by
    rw [List.mem_singleton] at hy
    rw [hy]
    show 0 ≤ cmpS a b c sc m m
    rw [cmpS_self]; decide⟩
  | x :: l, m => by
    show minL (ltS a b c sc) (if ltS a b c sc x m = true then x else m) l ∈ m :: x :: l ∧ ∀ y ∈ m :: x :: l, 0 ≤ cmpS a b c sc y (minL (ltS a b c sc) (if ltS a b c sc x m = true then x else m) l)
    by_cases h : ltS a b c sc x m = true
    · rw [if_pos h]
      obtain ⟨h1, h2⟩ := minL_least l x
      have hx : cmpS a b c sc x m < 0 := of_decide_eq_true h
      have hn := cmpS_neg (a := a) (b := b) (c := c) (sc := sc) x m
      refine ⟨List.mem_cons_of_mem _ h1, fun y hy => ?_⟩
      rcases List.mem_cons.1 hy with rfl | hy
      · exact cmpS_trans (Y := x) (by omega) (h2 x (by simp))
      · exact h2 y hy
    · rw [if_neg h]
      obtain ⟨h1, h2⟩ := minL_least l m
      have hx : ¬cmpS a b c sc x m < 0 := fun hh => h (decide_eq_true hh)
      refine ⟨?_, fun y hy => ?_⟩
      · rcases List.mem_cons.1 h1 with h1 | h1
        · rw [h1]; simp
        · simp [h1]
      · rcases List.mem_cons.1 hy with rfl | hy
        · exact h2 y (by simp)
        · rcases List.mem_cons.1 hy with rfl | hy
          · exact cmpS_trans (Y := m) (by omega) (h2 m (by simp))
          · exact h2 y (by simp [hy])
def minF (a b c : Int) (sc : Plc → Int) (F : List Plc) : Plc := minL (ltS a b c sc) (F.getD 0 default) (F.drop 1)
theorem minF_least {F : List Plc} (h : 0 < F.length) : minF a b c sc F ∈ F ∧ ∀ y ∈ F, 0 ≤ cmpS a b c sc y (minF a b c sc F) := by
  have e := drop_cons (default : Plc) h
  rw [List.drop_zero] at e
  have := minL_least (a := a) (b := b) (c := c) (sc := sc) (F.drop 1) (F.getD 0 default)
  rw [← e] at this
  exact this
theorem minF_is {F : List Plc} {p : Plc} (hp : p ∈ F) (hok : ∀ y ∈ F, y.ok a b c) (hle : ∀ y ∈ F, cmpS a b c sc p y ≤ 0) : minF a b c sc F = p := by
  obtain ⟨h1, h2⟩ := minF_least (a := a) (b := b) (c := c) (sc := sc) (List.length_pos_of_mem hp)
  have k1 := h2 p hp
  have k2 := hle _ h1
  exact (cmpS_zero (sc := sc) (hok p hp) (hok _ h1) (by omega)).symm
end
theorem best_is {a b c : Int} (w : Wnt) {xs ys : List Int} (hx : ∀ w ∈ xs, inU w) (hy : ∀ w ∈ ys, inU w) (c1 : schk (manyV a b c) xs = 0) (c2 : schk (3 * manyV a b c) ys = 0) (h : dwchk a b c w.p w.q w.r = 0) :
    Pur Tryz.prog GG 8 [.agg [I a, I b, I c], w.av, .isl (xs.map U), .isl (ys.map U)]
      (.tup [(if (wholeL a b c w).filter (holdV a b c xs ys) = [] then ⟨0, 0, 0, 0, 0, 0, false, false, false⟩ else minF a b c (scV a b c xs) ((wholeL a b c w).filter (holdV a b c xs ys)) : Plc).av, I (if (wholeL a b c w).filter (holdV a b c xs ys) = [] then 6 else 0)]) := by
  have hA := allS w hx hy c1 c2 h
  obtain ⟨hd, hw⟩ := dwchk_ok.1 h
  have hr := rsl_is (a := a) (b := b) (c := c) (w := w) (holdV a b c xs ys)
  have hle := Nat.le_trans (List.length_filter_le (holdV a b c xs ys) (wholeL a b c w)) (whole_le hd w)
  by_cases hF : (wholeL a b c w).filter (holdV a b c xs ys) = []
  · rw [if_pos hF, if_pos hF]
    rw [hF] at hA hr
    exact best_none (IsSet.isl hx) (IsSet.isl hy) hA hr
  · rw [if_neg hF, if_neg hF]
    have hne : ¬ wholeL a b c w = [] := fun e => hF (by rw [e]; rfl)
    have hrs : rsl a b c w ((wholeL a b c w).filter (holdV a b c xs ys)) = .isl (((wholeL a b c w).filter (holdV a b c xs ys)).map Plc.av) := by rw [rsl, if_neg hne]
    rw [hrs] at hA
    refine best_min (IsSet.isl hx) (IsSet.isl hy) (List.length_pos_iff.2 hF) (by omega) hA fun x hxm => ?_
    exact scV_pur hx c1 ((wholeL_mem hd).1 (List.mem_filter.1 hxm).1).1
theorem ok42 : codeOk 2 (Tryz.f42.body.getD .skip) = true := by kernel_rfl
theorem ro42 : resOk 2 Tryz.f42.results = true := by kernel_rfl
theorem dr42 : todoDr [] [.code (Tryz.f42.body.getD .skip)] = true := by kernel_rfl
set_option maxHeartbeats 4000000 in
set_option maxRecDepth 400000 in
theorem line_pur : Pur Tryz.prog GG 42 [] (.agg [I 4, I 1, I 1]) := by
  refine Pur.of_alone ggp (by simp [AV.purL, AV.pur]) (AC.of_body (c := (Tryz.f42.body.getD .skip)) Tryz.func42 rfl (by decide) ok42 ro42 (by exact (by decide : 0 ≤ 2)) ?_)
  refine walk hmix TOk.nil [] 3000 0 dr42 ?_
  delta Tryz.f42
  simp only [Option.getD_some]
  simp (maxSteps := 2000000) only [resA, resL, resVar, aload, ty0, rdCells, kw0, List.size_toArray, List.length_cons, List.length_nil, Nat.zero_add, List.range_succ, List.range_zero, List.nil_append, List.getElem?_toArray, List.getElem?_cons_zero, Go.Ab.put, ↓opK_some, ↓guK_none, kw1, roOf, aop, ↓roK_ok, Nat.reduceAdd, List.cons_append, aBuild, ev, upd, argTs, List.getD_nil, ofV, List.map_cons, List.map_nil, aFill, AV.isEl.eq_2, AV.cells.eq_2, Nat.reduceMul, Nat.reduceLeDiff, and_self, ↓reduceIte, splice, List.take_zero, List.drop_succ_cons, List.drop_zero, List.take_succ_cons, Nat.le_refl, List.drop_nil, List.append_nil, Option.map_some, List.getElem?_cons_succ, astore, AV.cells.eq_1, wrCells, reduceCtorEq, List.set_cons_zero, or_true, List.take_nil, Option.some.injEq, true_and]
  exact ⟨_, rfl, done_pur rfl rfl⟩
theorem ok43 : codeOk 3 (Tryz.f43.body.getD .skip) = true := by kernel_rfl
theorem ro43 : resOk 3 Tryz.f43.results = true := by kernel_rfl
theorem dr43 : todoDr [] [.code (Tryz.f43.body.getD .skip)] = true := by kernel_rfl
set_option maxHeartbeats 4000000 in
set_option maxRecDepth 400000 in
theorem one_pur : Pur Tryz.prog GG 43 [] (WT 1 1 1 false false false false) := by
  refine Pur.of_alone ggp (by simp [AV.purL, AV.pur]) (AC.of_body (c := (Tryz.f43.body.getD .skip)) Tryz.func43 rfl (by decide) ok43 ro43 (by exact (by decide : 0 ≤ 3)) ?_)
  refine walk hmix TOk.nil [] 3000 0 dr43 ?_
  delta Tryz.f43
  simp only [Option.getD_some]
  simp (maxSteps := 2000000) only [resA, resL, resVar, aload, ty0, rdCells, kw0, List.size_toArray, List.length_cons, List.length_nil, Nat.zero_add, List.range_succ, List.range_zero, List.nil_append, List.getElem?_toArray, List.getElem?_cons_zero, Go.Ab.put, ↓opK_some, ↓guK_none, kw1, roOf, aop, ↓roK_ok, Nat.reduceAdd, List.cons_append, aBuild, ev, upd, argTs, List.getD_nil, ofV, List.map_cons, List.map_nil, aFill, AV.isEl.eq_2, AV.cells.eq_2, Nat.reduceMul, Nat.reduceLeDiff, and_self, ↓reduceIte, splice, List.take_zero, List.drop_succ_cons, List.drop_zero, List.take_succ_cons, Nat.le_refl, List.drop_nil, List.append_nil, Option.map_some, List.getElem?_cons_succ, AV.cells.eq_1, astore, wrCells, reduceCtorEq, List.set_cons_zero, or_true, List.take_nil, Option.some.injEq, true_and]
  exact ⟨_, rfl, done_pur rfl rfl⟩
def wOne : Wnt := ⟨1, 1, 1, false, false, false, false⟩
def pAt (k : Int) : Plc := ⟨k, 0, 0, 1, 1, 1, false, false, false⟩
instance (w : Int) : Decidable (inU w) := by unfold inU; infer_instance
def exB (t k : Int) : Bool := decide (inU t) && decide (schk (manyV 4 1 1) [t] = 0) && decide (pAt k ∈ plL 4 1 1 wOne) && holdV 4 1 1 [t] [0] (pAt k) && (plL 4 1 1 wOne).all fun y => !holdV 4 1 1 [t] [0] y || decide (cmpS 4 1 1 (scV 4 1 1 [t]) (pAt k) y ≤ 0)
theorem exB1 : exB 0 0 = true := by decide +kernel
theorem exB2 : exB 1 1 = true := by decide +kernel
theorem exB3 : exB 5 1 = true := by decide +kernel
theorem exB4 : exB 3 2 = true := by decide +kernel
theorem best_ex {t k : Int} (h : exB t k = true) : Pur Tryz.prog GG 8 [.agg [I 4, I 1, I 1], wOne.av, .isl [U t], .isl [U 0]] (.tup [(pAt k).av, I 0]) := by
  unfold exB at h
  simp only [Bool.and_eq_true, decide_eq_true_eq, List.all_eq_true, Bool.or_eq_true, Bool.not_eq_true'] at h
  obtain ⟨⟨⟨⟨ht, hc⟩, hm⟩, hh⟩, hall⟩ := h
  have hx : ∀ w ∈ [t], inU w := fun w hw => by rw [List.mem_singleton.1 hw]; exact ht
  have hy : ∀ w ∈ [(0 : Int)], inU w := fun w hw => by rw [List.mem_singleton.1 hw]; exact inU_0
  have hb := best_is (a := 4) (b := 1) (c := 1) wOne hx hy hc (by decide) (by decide)
  have hd : okD 4 1 1 := by decide
  have hmem : ∀ x, x ∈ wholeL 4 1 1 wOne ↔ x ∈ plL 4 1 1 wOne := fun x => by
    rw [whole_mem, rawL, show wOne.turns = [wOne] from rfl, List.mem_flatMap]
    simp
  have hpm : pAt k ∈ (wholeL 4 1 1 wOne).filter (holdV 4 1 1 [t] [0]) := List.mem_filter.2 ⟨(hmem _).2 hm, hh⟩
  have hne : ¬(wholeL 4 1 1 wOne).filter (holdV 4 1 1 [t] [0]) = [] := fun e => by rw [e] at hpm; cases hpm
  rw [if_neg hne, if_neg hne, minF_is hpm (fun y hy => ((wholeL_mem hd).1 (List.mem_filter.1 hy).1).1) fun y hy => by
    obtain ⟨y1, y2⟩ := List.mem_filter.1 hy
    rcases hall y ((hmem y).1 y1) with h3 | h3
    · rw [y2] at h3; cases h3
    · exact h3] at hb
  exact hb
theorem ok16 : codeOk 27 (Tryz.f16.body.getD .skip) = true := by kernel_rfl
theorem ro16 : resOk 27 Tryz.f16.results = true := by kernel_rfl
theorem dr16 : todoDr [] [.code (Tryz.f16.body.getD .skip)] = true := by kernel_rfl
set_option maxHeartbeats 4000000 in
set_option maxRecDepth 400000 in
theorem at15_pur {t k : Int} (h : exB t k = true) : Pur Tryz.prog GG 16 [U t, I k] (B true) := by
  have hb := best_ex h
  have heq := Plc.eq (pAt k) (pAt k)
  rw [decide_eq_true rfl] at heq
  simp only [Plc.av, pAt] at heq
  refine Pur.of_alone ggp (by simp [AV.purL, AV.pur]) (AC.of_body (c := (Tryz.f16.body.getD .skip)) Tryz.func16 rfl (by decide) ok16 ro16 (by exact (by decide : 2 ≤ 27)) ?_)
  refine walk hmix TOk.nil [] 3000 0 dr16 ?_
  delta Tryz.f16
  simp only [Option.getD_some]
  simp (maxSteps := 2000000) only [resA, resL, resVar, Option.some.injEq, kw0, List.size_toArray, List.length_cons, List.length_nil, Nat.zero_add, List.range_succ, List.range_zero, List.nil_append, List.getElem?_toArray, List.getElem?_cons_zero, Go.Ab.put, ↓opK_some, ↓guK_none, kw1, roOf, aop, ev, ofV, ↓roK_ok, Nat.reduceAdd, List.cons_append, tcall, Tab.nil, List.map_nil, ↓roK_call, true_and]
  refine AC.pur line_pur ?_
  refine walk hmix TOk.nil [] 3000 0 (by kernel_rfl) ?_
  simp (maxSteps := 2000000) only [kw0, List.getElem?_toArray, List.getElem?_cons_succ, List.getElem?_cons_zero, Go.Ab.put, ↓opK_some, ↓guK_none, kw1, roOf, tcall, ev, Tab.nil, List.map_nil, ↓roK_call]
  refine AC.pur one_pur ?_
  refine walk hmix TOk.nil [] 3000 0 (by kernel_rfl) ?_
  simp (maxSteps := 2000000) only [kw0, List.getElem?_toArray, List.getElem?_cons_succ, List.getElem?_cons_zero, Go.Ab.put, ↓opK_some, ↓guK_none, kw1, roOf, aop, ev, upd, reduceCtorEq, ↓reduceIte, argTs, List.getD_cons_zero, ↓roK_ok, ty1, ty2, AV.cells.eq_2, List.length_cons, List.length_nil, Nat.zero_add, Nat.reduceMul, Nat.reducePow, Nat.reduceLeDiff, slv, List.nil_append, List.reduceReplicate, ofV, List.map_cons, List.map_nil, aFillEs, AV.isEl.eq_2, Nat.reduceLT, and_self, List.set_cons_zero, Option.map_some, List.cons_append, tcall, Tab.nil, Nat.reduceEqDiff, ↓roK_call, true_and]
  refine Own.freeze (f := 8) (pre := [.agg [I 4, I 1, I 1], WT 1 1 1 false false false false]) (post := [.sl 1 0 1 1]) (s := .sl 0 0 1 1) (es := [U t]) ?_ rfl ?_
  · exact Own.row (es := [U t]) rfl Nat.one_pos
  intro H1 h1
  rw [show frS [U t] = .isl [U t] from rfl]
  refine Own.freeze (f := 8) (pre := [.agg [I 4, I 1, I 1], WT 1 1 1 false false false false, .isl [U t]]) (post := []) (s := .sl 1 0 1 1) (es := [U 0]) (Own.row (es := [U 0]) ((h1 1 (by simp [ownId])).trans rfl) (by decide)) rfl ?_
  intro H2 _
  rw [show frS [U 0] = .isl [U 0] from rfl]
  refine AC.pur hb ?_
  show FW _ _ _ _ _ (upd _ 13 (.tup [PL k 0 0 1 1 1 false false false, I 0])) _ _
  refine walk hmix TOk.nil [] 3000 0 (by kernel_rfl) ?_
  simp (maxSteps := 2000000) only [kw0, List.getElem?_toArray, List.getElem?_cons_succ, List.getElem?_cons_zero, Go.Ab.put, ↓opK_some, ↓guK_none, kw1, roOf, aop, ev, upd, ↓reduceIte, ↓roK_ok, Option.map_some, Nat.reduceEqDiff, ty1, astore, AV.isEl.eq_2, AV.cells.eq_1, List.length_cons, List.length_nil, Nat.zero_add, Nat.reduceAdd, and_self, wrCells, getA0, Nat.le_refl, splice, List.take_zero, List.nil_append, List.drop_succ_cons, List.drop_nil, List.append_nil, setA0, List.set_cons_zero, List.size_toArray, List.range_succ, List.range_zero, List.cons_append, aBin, ofV, aBinI, beq_self_eq_true, ↓guK_some, Option.bind_some, ↓tmK_some, ↓gsK_true, aload, rdCells, List.drop_zero, List.take_succ_cons, List.take_nil, argTs, List.getD_cons_succ, List.getD_cons_zero, aBuild, ty0, List.map_cons, List.map_nil, aFill, AV.cells.eq_2, Nat.reduceMul, Nat.reduceLeDiff, aBinAgg, heq, pickA, cond_true, reduceCtorEq, or_true, true_and]
  exact ⟨_, rfl, done_pur rfl rfl⟩
theorem ok6 : codeOk 11 (Tryz.f6.body.getD .skip) = true := by kernel_rfl
theorem ro6 : resOk 11 Tryz.f6.results = true := by kernel_rfl
theorem dr6 : todoDr [] [.code (Tryz.f6.body.getD .skip)] = true := by kernel_rfl
set_option maxHeartbeats 4000000 in
set_option maxRecDepth 400000 in
theorem alive15 : Pur Tryz.prog GG 6 [] (B true) := by
  refine Pur.of_alone ggp (by simp [AV.purL, AV.pur]) (AC.of_body (c := (Tryz.f6.body.getD .skip)) Tryz.func6 rfl (by decide) ok6 ro6 (by exact (by decide : 0 ≤ 11)) ?_)
  refine walk hmix TOk.nil [] 3000 0 dr6 ?_
  delta Tryz.f6
  simp only [Option.getD_some]
  simp (maxSteps := 2000000) only [resA, resL, resVar, Option.some.injEq, kw0, List.size_toArray, List.length_cons, List.length_nil, Nat.zero_add, List.range_succ, List.range_zero, List.nil_append, List.getElem?_toArray, List.getElem?_cons_zero, Go.Ab.put, ↓opK_some, ↓guK_none, kw1, roOf, aop, ev, ofV, ↓roK_ok, Nat.reduceAdd, List.cons_append, tcall, Tab.nil, List.map_cons, List.map_nil, ↓roK_call, true_and]
  refine AC.pur (at15_pur exB1) ?_
  refine walk hmix TOk.nil [] 3000 0 (by kernel_rfl) ?_
  simp (maxSteps := 2000000) only [kw0, List.getElem?_toArray, List.getElem?_cons_succ, List.getElem?_cons_zero, Go.Ab.put, ↓opK_some, ↓guK_none, kw1, roOf, aop, ev, upd, ↓reduceIte, ↓roK_ok, ↓guK_some, Option.bind_some, ↓tmK_some, ↓gsK_true, beq_self_eq_true, tcall, Tab.nil, List.map_cons, ofV, List.map_nil, ↓roK_call, true_and]
  refine AC.pur (at15_pur exB2) ?_
  refine walk hmix TOk.nil [] 3000 0 (by kernel_rfl) ?_
  simp (maxSteps := 2000000) only [kw0, List.getElem?_toArray, List.getElem?_cons_succ, List.getElem?_cons_zero, Go.Ab.put, ↓opK_some, ↓guK_none, kw1, roOf, aop, ev, upd, Nat.reduceEqDiff, ↓reduceIte, pickA, ofV, cond_true, ↓roK_ok, ↓guK_some, Option.bind_some, ↓tmK_some, ↓gsK_true, beq_self_eq_true, tcall, Tab.nil, List.map_cons, List.map_nil, ↓roK_call, true_and]
  refine AC.pur (at15_pur exB3) ?_
  refine walk hmix TOk.nil [] 3000 0 (by kernel_rfl) ?_
  simp (maxSteps := 2000000) only [kw0, List.getElem?_toArray, List.getElem?_cons_succ, List.getElem?_cons_zero, Go.Ab.put, ↓opK_some, ↓guK_none, kw1, roOf, aop, ev, upd, Nat.reduceEqDiff, ↓reduceIte, pickA, ofV, cond_true, ↓roK_ok, ↓guK_some, Option.bind_some, ↓tmK_some, ↓gsK_true, beq_self_eq_true, tcall, Tab.nil, List.map_cons, List.map_nil, ↓roK_call, true_and]
  refine AC.pur (at15_pur exB4) ?_
  refine walk hmix TOk.nil [] 3000 0 (by kernel_rfl) ?_
  simp (maxSteps := 2000000) only [kw0, List.getElem?_toArray, List.getElem?_cons_succ, List.getElem?_cons_zero, Go.Ab.put, ↓opK_some, ↓guK_none, kw1, roOf, aop, ev, upd, Nat.reduceEqDiff, ↓reduceIte, pickA, ofV, cond_true, ↓roK_ok, reduceCtorEq, or_true, true_and]
  exact ⟨_, rfl, done_pur rfl rfl⟩
end Go.Ab.Pd

set_option linter.unusedSimpArgs false
set_option linter.unusedVariables false
namespace Go.Ab.Pd
open Go.Proofs
def smallV (a b c : Int) : Bool := if okD a b c then decide (IntKind.i64.wrap (IntKind.i64.wrap (a * b) * c) ≤ 64) else true
theorem ok7 : codeOk 27 (Tryz.f7.body.getD .skip) = true := by kernel_rfl
theorem ro7 : resOk 27 Tryz.f7.results = true := by kernel_rfl
theorem dr7 : todoDr [] [.code (Tryz.f7.body.getD .skip)] = true := by kernel_rfl
set_option maxHeartbeats 4000000 in
set_option maxRecDepth 400000 in
theorem small_pur (a b c : Int) : Pur Tryz.prog GG 7 [.agg [I a, I b, I c]] (B (smallV a b c)) := by
  refine Pur.of_alone ggp (by first | rfl | (simp [AV.purL, AV.pur]; done) | (simp [AV.purL, AV.pur, frS_pur (purL_map IA _ (fun _ => rfl)), purL_map U _ (fun _ => rfl)]; done) | (simp [AV.purL, AV.pur, *]; done)) (AC.of_body (c := (Tryz.f7.body.getD .skip)) Tryz.func7 rfl (by decide) ok7 ro7 (by exact (by decide : 1 ≤ 27)) ?_)
  refine walk hmix TOk.nil [] 3000 5 dr7 ?_
  delta Tryz.f7
  simp only [Option.getD_some]
  simp (maxSteps := 2000000) only [resA, resL, resVar, Option.some.injEq, kw0, List.size_toArray, List.length_cons, List.length_nil, Nat.zero_add, Nat.reduceAdd, List.range_succ, List.range_zero, List.nil_append, List.cons_append, List.getElem?_toArray, List.getElem?_cons_zero, Go.Ab.put, ↓opK_some, ↓guK_none, kw1, roOf, aop, ev, argTs, List.getD_cons_zero, AV.isEl.eq_2, ↓reduceIte, AV.cells.eq_1, ↓roK_ok, List.getElem?_cons_succ, ofV, upd, aBin, aBinI, Int.reduceLT, decide_true, Option.map_some, ↓gdK_true, Nat.reduceEqDiff, aInt, ty0, Int.reduceLE, and_self, ptrAdd, Int.toNat_zero, Nat.reduceMul, Nat.add_zero, aload, rdCells, Nat.reduceLeDiff, List.drop_zero, List.take_succ_cons, List.take_zero, ↓guK_some, Option.bind_some, ↓tmK_some, ↓gsK_dec, ↓gsK_true, pickA, cond_true, reduceCtorEq, or_true, true_and, beq_self_eq_true, ↓gsK_false, cond_false, ↓gdK_dec, Int.zero_add, Int.reduceNeg, wrapL, Int.toNat_one, List.drop_succ_cons, Int.reduceAdd, Int.reduceToNat, Nat.le_refl, List.take_nil, decide_false, ↓gdK_false, exitTo, or_false, ↓exK_some]
  unfold smallV
  repeat' (first | apply And.intro | intro _)
  all_goals
    refine ⟨_, rfl, done_pur rfl ?_⟩
    simp only [AV.c.injEq, Value.bool.injEq]
    first | (rw [if_neg (by unfold okD; omega)]) | (rw [if_pos (by unfold okD; omega)])
end Go.Ab.Pd

set_option linter.unusedSimpArgs false
set_option linter.unusedVariables false
namespace Go.Ab.Pd
open Go.Proofs
theorem IsSet.len {s : AV} (q : IsSet s) : ∃ L : Int, aLen Tryz.prog 28 s = some L := by
  obtain ⟨ws, _, rfl | ⟨rfl, _⟩⟩ := q
  · exact ⟨_, li28 _⟩
  · exact ⟨_, ln28⟩
def zPl : Plc := ⟨0, 0, 0, 0, 0, 0, false, false, false⟩
theorem set_told {s : AV} (q : IsSet s) (n : Int) : (∃ e : Int, ¬e = 0 ∧ Pur Tryz.prog GG 29 [I n, s] (I e)) ∨ ∃ ws : List Int, (∀ w ∈ ws, inU w) ∧ s = .isl (ws.map U) ∧ schk n ws = 0 := by
  obtain ⟨ws, hw, rfl | ⟨rfl, rfl⟩⟩ := q
  · by_cases h : schk n ws = 0
    · exact .inr ⟨ws, hw, rfl, h⟩
    · exact .inl ⟨_, h, scheck_pur n ws⟩
  · refine .inl ⟨_, fun h => ?_, scheckN_pur n⟩
    obtain ⟨hn, hl, _⟩ := (schk_bits (ws := []) (by simp)).1 h
    simp only [List.length_nil] at hl
    omega
theorem check_of {n : Int} {ws : List Int} (h : schk n ws = 0) : Pur Tryz.prog GG 29 [I n, .isl (ws.map U)] (I 0) := by
  have := scheck_pur n ws
  rwa [h] at this
theorem dwchk_8 {a b c p q r : Int} (h : ¬dwchk a b c p q r = 0) : dwchk a b c p q r = 8 := by
  unfold dwchk wchk at *
  split
  · split
    · simp_all
    · rfl
  · rfl
theorem best_all (a b c : Int) (w : Wnt) {s1 s2 : AV} (q1 : IsSet s1) (q2 : IsSet s2) :
    Pur Tryz.prog GG 8 [.agg [I a, I b, I c], w.av, s1, s2] (.tup [zPl.av, I 8]) ∨
    ∃ xs ys : List Int, (∀ w ∈ xs, inU w) ∧ (∀ w ∈ ys, inU w) ∧ s1 = .isl (xs.map U) ∧ s2 = .isl (ys.map U) ∧ schk (manyV a b c) xs = 0 ∧ schk (3 * manyV a b c) ys = 0 ∧ dwchk a b c w.p w.q w.r = 0 := by
  by_cases h : dwchk a b c w.p w.q w.r = 0
  · rcases set_told q1 (manyV a b c) with ⟨e1, n1, p1⟩ | ⟨xs, hx, rfl, c1⟩
    · obtain ⟨e2, p2, _⟩ := check_ex q2 (3 * manyV a b c)
      exact .inl (best_err q1 q2 (by decide) (spotsA_sets w q1 q2 h p1 p2 fun hh => n1 hh.1))
    · rcases set_told q2 (3 * manyV a b c) with ⟨e2, n2, p2⟩ | ⟨ys, hy, rfl, c2⟩
      · exact .inl (best_err q1 q2 (by decide) (spotsA_sets w q1 q2 h (check_of c1) p2 fun hh => n2 hh.2))
      · exact .inr ⟨xs, ys, hx, hy, rfl, rfl, c1, c2, h⟩
  · have := spotsA_bad w q1 q2 h
    rw [dwchk_8 h] at this
    exact .inl (best_err q1 q2 (by decide) this)
end Go.Ab.Pd

set_option linter.unusedSimpArgs false
set_option linter.unusedVariables false
namespace Go.Ab.Pd
open Go.Proofs
theorem ok5 : codeOk 175 (Tryz.f5.body.getD .skip) = true := by kernel_rfl
theorem ro5 : resOk 175 Tryz.f5.results = true := by kernel_rfl
theorem dr5 : todoDr [] [.code (Tryz.f5.body.getD .skip)] = true := by kernel_rfl
set_option maxHeartbeats 16000000 in
set_option maxRecDepth 400000 in
theorem least_walk {a b c : Int} {w : Wnt} {s1 s2 : AV} (q1 : IsSet s1) (q2 : IsSet s2) {x bp : Plc} {be f g : Int} {is hold : Bool} (hB : Pur Tryz.prog GG 8 [.agg [I a, I b, I c], w.av, s1, s2] (.tup [bp.av, I be]))
    (hI : Pur Tryz.prog GG 14 [.agg [I a, I b, I c], w.av, x.av] (.tup [B is, I f])) (hH : Pur Tryz.prog GG 10 [.agg [I a, I b, I c], x.av, s1, s2] (.tup [B hold, I g]))
    (k8 : ¬be = 0 → ¬be = 6 → bp = zPl) (k6 : be = 6 → ¬(f = 0 ∧ g = 0 ∧ is = true ∧ hold = true))
    (k0 : be = 0 → Pur Tryz.prog GG 14 [.agg [I a, I b, I c], w.av, bp.av] (.tup [B true, I 0]) ∧ Pur Tryz.prog GG 10 [.agg [I a, I b, I c], bp.av, s1, s2] (.tup [B true, I 0]) ∧
      (f = 0 → g = 0 → is = true → hold = true → ∃ m n : Int, n ≤ m ∧ Pur Tryz.prog GG 13 [.agg [I a, I b, I c], x.av, bp.av, s1] (.tup [B false, I 0]) ∧
        Pur Tryz.prog GG 15 [.agg [I a, I b, I c], x.av, s1] (.tup [I m, I 0]) ∧ Pur Tryz.prog GG 15 [.agg [I a, I b, I c], bp.av, s1] (.tup [I n, I 0]))) :
    Pur Tryz.prog GG 5 [.agg [I a, I b, I c], w.av, s1, s2, x.av] (B true) := by
  have hal := alive15
  have h1 := q1.pur
  have h2 := q2.pur
  obtain ⟨k11, k12, k13⟩ := q1.cell
  obtain ⟨k21, k22, k23⟩ := q2.cell
  obtain ⟨L1, hL1⟩ := q1.len
  obtain ⟨L2, hL2⟩ := q2.len
  have hsm := small_pur a b c
  have hcb := Plc.cells bp
  have hcx := Plc.cells x
  show Pur Tryz.prog GG 5 [.agg [I a, I b, I c], WT w.p w.q w.r w.s w.t w.u w.v, s1, s2, PL x.x x.y x.z x.p x.q x.r x.s x.t x.u] _
  by_cases g1 : 100 < L1
  · skip
    refine Pur.of_alone ggp (by simp [AV.purL, AV.pur, h1, h2]) (AC.of_body (c := (Tryz.f5.body.getD .skip)) Tryz.func5 rfl (by decide) ok5 ro5 (by exact (by decide : 5 ≤ 175)) ?_)
    refine walk hmix TOk.nil [] 3000 0 dr5 ?_
    delta Tryz.f5
    simp only [Option.getD_some]
    simp (maxSteps := 2000000) only [resA, resL, resVar, Option.some.injEq, kw0, List.size_toArray, List.length_cons, List.length_nil, Nat.zero_add, Nat.reduceAdd, List.range_succ, List.range_zero, List.nil_append, List.cons_append, List.getElem?_toArray, List.getElem?_cons_zero, Go.Ab.put, ↓opK_some, ↓guK_none, kw1, roOf, aop, ev, argTs, List.getD_cons_zero, AV.isEl.eq_2, ↓reduceIte, AV.cells.eq_1, ↓roK_ok, List.getElem?_cons_succ, upd, Nat.reduceEqDiff, List.getD_cons_succ, ofV, tcall, Tab.nil, List.map_nil, ↓roK_call, true_and]
    refine AC.pur hal ?_
    refine walk hmix TOk.nil [] 3000 0 (by kernel_rfl) ?_
    simp (maxSteps := 2000000) only [kw0, List.getElem?_toArray, List.getElem?_cons_succ, List.getElem?_cons_zero, Go.Ab.put, ↓opK_some, ↓guK_none, kw1, roOf, aop, ev, upd, ↓reduceIte, ↓roK_ok, List.size_toArray, List.length_cons, List.length_nil, Nat.zero_add, Nat.reduceAdd, List.range_succ, List.range_zero, List.nil_append, List.cons_append, Nat.reduceEqDiff, argTs, List.getD_cons_succ, List.getD_cons_zero, hL1, Option.map_some, aBin, ofV, aBinI, g1, decide_true, ↓guK_some, Option.bind_some, ↓tmK_some, ↓gsK_true, pickA, cond_true, ↓gdK_true, reduceCtorEq, or_true, true_and]
    exact ⟨_, rfl, done_pur rfl rfl⟩
  by_cases g2 : 100 < L2
  · skip
    refine Pur.of_alone ggp (by simp [AV.purL, AV.pur, h1, h2]) (AC.of_body (c := (Tryz.f5.body.getD .skip)) Tryz.func5 rfl (by decide) ok5 ro5 (by exact (by decide : 5 ≤ 175)) ?_)
    refine walk hmix TOk.nil [] 3000 0 dr5 ?_
    delta Tryz.f5
    simp only [Option.getD_some]
    simp (maxSteps := 2000000) only [resA, resL, resVar, Option.some.injEq, kw0, List.size_toArray, List.length_cons, List.length_nil, Nat.zero_add, Nat.reduceAdd, List.range_succ, List.range_zero, List.nil_append, List.cons_append, List.getElem?_toArray, List.getElem?_cons_zero, Go.Ab.put, ↓opK_some, ↓guK_none, kw1, roOf, aop, ev, argTs, List.getD_cons_zero, AV.isEl.eq_2, ↓reduceIte, AV.cells.eq_1, ↓roK_ok, List.getElem?_cons_succ, upd, Nat.reduceEqDiff, List.getD_cons_succ, ofV, tcall, Tab.nil, List.map_nil, ↓roK_call, true_and]
    refine AC.pur hal ?_
    refine walk hmix TOk.nil [] 3000 0 (by kernel_rfl) ?_
    simp (maxSteps := 2000000) only [kw0, List.getElem?_toArray, List.getElem?_cons_succ, List.getElem?_cons_zero, Go.Ab.put, ↓opK_some, ↓guK_none, kw1, roOf, aop, ev, upd, ↓reduceIte, ↓roK_ok, List.size_toArray, List.length_cons, List.length_nil, Nat.zero_add, Nat.reduceAdd, List.range_succ, List.range_zero, List.nil_append, List.cons_append, Nat.reduceEqDiff, argTs, List.getD_cons_succ, List.getD_cons_zero, hL1, Option.map_some, aBin, ofV, aBinI, g1, decide_false, ↓guK_some, Option.bind_some, ↓tmK_some, ↓gsK_false, beq_self_eq_true, hL2, g2, decide_true, pickA, cond_false, ↓gsK_true, cond_true, ↓gdK_true, reduceCtorEq, or_true, true_and]
    exact ⟨_, rfl, done_pur rfl rfl⟩
  cases g4 : smallV a b c
  · rw [g4] at hsm
    refine Pur.of_alone ggp (by simp [AV.purL, AV.pur, h1, h2]) (AC.of_body (c := (Tryz.f5.body.getD .skip)) Tryz.func5 rfl (by decide) ok5 ro5 (by exact (by decide : 5 ≤ 175)) ?_)
    refine walk hmix TOk.nil [] 3000 0 dr5 ?_
    delta Tryz.f5
    simp only [Option.getD_some]
    simp (maxSteps := 2000000) only [resA, resL, resVar, Option.some.injEq, kw0, List.size_toArray, List.length_cons, List.length_nil, Nat.zero_add, Nat.reduceAdd, List.range_succ, List.range_zero, List.nil_append, List.cons_append, List.getElem?_toArray, List.getElem?_cons_zero, Go.Ab.put, ↓opK_some, ↓guK_none, kw1, roOf, aop, ev, argTs, List.getD_cons_zero, AV.isEl.eq_2, ↓reduceIte, AV.cells.eq_1, ↓roK_ok, List.getElem?_cons_succ, upd, Nat.reduceEqDiff, List.getD_cons_succ, ofV, tcall, Tab.nil, List.map_nil, ↓roK_call, true_and]
    refine AC.pur hal ?_
    refine walk hmix TOk.nil [] 3000 0 (by kernel_rfl) ?_
    simp (maxSteps := 2000000) only [kw0, List.getElem?_toArray, List.getElem?_cons_succ, List.getElem?_cons_zero, Go.Ab.put, ↓opK_some, ↓guK_none, kw1, roOf, aop, ev, upd, ↓reduceIte, ↓roK_ok, List.size_toArray, List.length_cons, List.length_nil, Nat.zero_add, Nat.reduceAdd, List.range_succ, List.range_zero, List.nil_append, List.cons_append, Nat.reduceEqDiff, argTs, List.getD_cons_succ, List.getD_cons_zero, hL1, Option.map_some, aBin, ofV, aBinI, g1, decide_false, ↓guK_some, Option.bind_some, ↓tmK_some, ↓gsK_false, beq_self_eq_true, hL2, g2, pickA, cond_false, aload, ty0, rdCells, Nat.le_refl, List.drop_zero, List.take_succ_cons, List.take_nil, tcall, Tab.nil, List.map_cons, List.map_nil, ↓roK_call, true_and]
    refine AC.pur hsm ?_
    refine walk hmix TOk.nil [] 3000 0 (by kernel_rfl) ?_
    simp (maxSteps := 2000000) only [kw0, List.getElem?_toArray, List.getElem?_cons_succ, List.getElem?_cons_zero, Go.Ab.put, ↓opK_some, ↓guK_some, Option.bind_some, ↓tmK_some, kw1, upd, Nat.reduceEqDiff, ↓reduceIte, ↓gsK_false, beq_self_eq_true, roOf, aop, ev, Bool.not_false, ↓roK_ok, ↓guK_none, pickA, ofV, cond_false, ↓gsK_true, cond_true, ↓gdK_true, List.size_toArray, List.length_cons, List.length_nil, Nat.zero_add, Nat.reduceAdd, List.range_succ, List.range_zero, List.nil_append, List.cons_append, reduceCtorEq, or_true, true_and]
    exact ⟨_, rfl, done_pur rfl rfl⟩
  rw [g4] at hsm
  simp only [Plc.av] at hB hI hH
  refine Pur.of_alone ggp (by simp [AV.purL, AV.pur, h1, h2]) (AC.of_body (c := (Tryz.f5.body.getD .skip)) Tryz.func5 rfl (by decide) ok5 ro5 (by exact (by decide : 5 ≤ 175)) ?_)
  refine walk hmix TOk.nil [] 3000 0 dr5 ?_
  delta Tryz.f5
  simp only [Option.getD_some]
  simp (maxSteps := 2000000) only [resA, resL, resVar, Option.some.injEq, kw0, List.size_toArray, List.length_cons, List.length_nil, Nat.zero_add, Nat.reduceAdd, List.range_succ, List.range_zero, List.nil_append, List.cons_append, List.getElem?_toArray, List.getElem?_cons_zero, Go.Ab.put, ↓opK_some, ↓guK_none, kw1, roOf, aop, ev, argTs, List.getD_cons_zero, AV.isEl.eq_2, ↓reduceIte, AV.cells.eq_1, ↓roK_ok, List.getElem?_cons_succ, upd, Nat.reduceEqDiff, List.getD_cons_succ, ofV, tcall, Tab.nil, List.map_nil, ↓roK_call, true_and]
  refine AC.pur hal ?_
  refine walk hmix TOk.nil [] 3000 0 (by kernel_rfl) ?_
  simp (maxSteps := 2000000) only [kw0, List.getElem?_toArray, List.getElem?_cons_succ, List.getElem?_cons_zero, Go.Ab.put, ↓opK_some, ↓guK_none, kw1, roOf, aop, ev, upd, ↓reduceIte, ↓roK_ok, List.size_toArray, List.length_cons, List.length_nil, Nat.zero_add, Nat.reduceAdd, List.range_succ, List.range_zero, List.nil_append, List.cons_append, Nat.reduceEqDiff, argTs, List.getD_cons_succ, List.getD_cons_zero, hL1, Option.map_some, aBin, ofV, aBinI, g1, decide_false, ↓guK_some, Option.bind_some, ↓tmK_some, ↓gsK_false, beq_self_eq_true, hL2, g2, pickA, cond_false, aload, ty0, rdCells, Nat.le_refl, List.drop_zero, List.take_succ_cons, List.take_nil, tcall, Tab.nil, List.map_cons, List.map_nil, ↓roK_call, true_and]
  refine AC.pur hsm ?_
  refine walk hmix TOk.nil [] 3000 0 (by kernel_rfl) ?_
  simp (maxSteps := 2000000) only [kw0, List.getElem?_toArray, List.getElem?_cons_succ, List.getElem?_cons_zero, Go.Ab.put, ↓opK_some, ↓guK_some, Option.bind_some, ↓tmK_some, kw1, upd, Nat.reduceEqDiff, ↓reduceIte, ↓gsK_false, beq_self_eq_true, roOf, aop, ev, Bool.not_true, ↓roK_ok, ↓guK_none, pickA, ofV, cond_false, ↓gdK_false, List.size_toArray, List.length_cons, List.length_nil, Nat.zero_add, Nat.reduceAdd, List.range_succ, List.range_zero, List.nil_append, List.cons_append, aload, ty0, rdCells, Nat.le_refl, List.drop_zero, List.take_succ_cons, List.take_nil, Option.map_some, argTs, List.getD_cons_succ, List.getD_cons_zero, tcall, Tab.nil, List.map_cons, List.map_nil, ↓roK_call, true_and]
  refine AC.pur hB ?_
  refine walk hmix TOk.nil [] 3000 0 (by kernel_rfl) ?_
  simp (maxSteps := 2000000) only [kw0, List.getElem?_toArray, List.getElem?_cons_succ, List.getElem?_cons_zero, Go.Ab.put, ↓opK_some, ↓guK_none, kw1, roOf, aop, ev, upd, ↓reduceIte, ↓roK_ok, Option.map_some, Nat.reduceEqDiff, ty1, List.length_cons, List.length_nil, Nat.zero_add, Nat.reduceAdd, List.cons_append, List.nil_append, astore, AV.isEl.eq_2, AV.cells.eq_1, and_self, wrCells, Nat.le_refl, splice, List.take_zero, List.drop_succ_cons, List.drop_nil, List.append_nil, List.set_cons_succ, List.set_cons_zero, List.size_toArray, List.range_succ, List.range_zero, aload, ty0, rdCells, List.drop_zero, List.take_succ_cons, List.take_nil, tcall, Tab.nil, List.map_cons, List.map_nil, ↓roK_call, true_and]
  refine AC.pur hI ?_
  refine walk hmix TOk.nil [] 3000 0 (by kernel_rfl) ?_
  simp (maxSteps := 2000000) only [kw0, List.getElem?_toArray, List.getElem?_cons_succ, List.getElem?_cons_zero, Go.Ab.put, ↓opK_some, ↓guK_none, kw1, roOf, aop, ev, upd, ↓reduceIte, ↓roK_ok, Option.map_some, Nat.reduceEqDiff, List.size_toArray, List.length_cons, List.length_nil, Nat.zero_add, Nat.reduceAdd, List.range_succ, List.range_zero, List.nil_append, List.cons_append, aload, ty0, rdCells, Nat.le_refl, List.drop_zero, List.take_succ_cons, List.take_nil, ty1, argTs, List.getD_cons_succ, List.getD_cons_zero, tcall, Tab.nil, List.map_cons, List.map_nil, ↓roK_call, true_and]
  refine AC.pur hH ?_
  by_cases hbe : be = 0
  · obtain ⟨pI, pH, k1⟩ := k0 hbe
    subst hbe
    simp only [Plc.av] at pI pH
    refine walk hmix TOk.nil [] 3000 0 (by kernel_rfl) ?_
    simp (maxSteps := 2000000) only [kw0, List.getElem?_toArray, List.getElem?_cons_succ, List.getElem?_cons_zero, Go.Ab.put, ↓opK_some, ↓guK_none, kw1, roOf, aop, ev, upd, ↓reduceIte, ↓roK_ok, Option.map_some, Nat.reduceEqDiff, List.size_toArray, List.length_cons, List.length_nil, Nat.zero_add, Nat.reduceAdd, List.range_succ, List.range_zero, List.nil_append, List.cons_append, aBin, ofV, aBinI, beq_eq_decide', Int.reduceEq, decide_false, ↓gdK_false, bne_eq_decide', ne_eq, not_true_eq_false, aload, ty0, rdCells, Nat.le_refl, List.drop_zero, List.take_succ_cons, List.take_nil, ty1, tcall, Tab.nil, List.map_cons, List.map_nil, ↓roK_call, true_and]
    refine AC.pur pI ?_
    refine walk hmix TOk.nil [] 3000 0 (by kernel_rfl) ?_
    simp (maxSteps := 2000000) only [kw0, List.getElem?_toArray, List.getElem?_cons_succ, List.getElem?_cons_zero, Go.Ab.put, ↓opK_some, ↓guK_none, kw1, roOf, aop, ev, upd, ↓reduceIte, ↓roK_ok, Option.map_some, Nat.reduceEqDiff, List.size_toArray, List.length_cons, List.length_nil, Nat.zero_add, Nat.reduceAdd, List.range_succ, List.range_zero, List.nil_append, List.cons_append, aload, ty0, rdCells, Nat.le_refl, List.drop_zero, List.take_succ_cons, List.take_nil, ty1, argTs, List.getD_cons_succ, List.getD_cons_zero, tcall, Tab.nil, List.map_cons, List.map_nil, ↓roK_call, true_and]
    refine AC.pur pH ?_
    by_cases hf : f = 0
    · by_cases hg : g = 0
      · cases is
        · skip
          refine walk hmix TOk.nil [] 3000 0 (by kernel_rfl) ?_
          simp (maxSteps := 2000000) only [hf, hg, kw0, List.getElem?_toArray, List.getElem?_cons_succ, List.getElem?_cons_zero, Go.Ab.put, ↓opK_some, ↓guK_none, kw1, roOf, aop, ev, upd, ↓reduceIte, ↓roK_ok, Option.map_some, Nat.reduceEqDiff, List.size_toArray, List.length_cons, List.length_nil, Nat.zero_add, Nat.reduceAdd, List.range_succ, List.range_zero, List.nil_append, List.cons_append, aBin, ofV, aBinI, bne_eq_decide', ne_eq, not_true_eq_false, decide_false, ↓guK_some, Option.bind_some, ↓tmK_some, ↓gsK_false, beq_self_eq_true, pickA, cond_false, Bool.not_true, ↓gdK_false, Bool.not_false, ↓gsK_true, cond_true, ↓gdK_true, reduceCtorEq, or_true, true_and]
          exact ⟨_, rfl, done_pur rfl rfl⟩
        · cases hold
          · skip
            refine walk hmix TOk.nil [] 3000 0 (by kernel_rfl) ?_
            simp (maxSteps := 2000000) only [hf, hg, kw0, List.getElem?_toArray, List.getElem?_cons_succ, List.getElem?_cons_zero, Go.Ab.put, ↓opK_some, ↓guK_none, kw1, roOf, aop, ev, upd, ↓reduceIte, ↓roK_ok, Option.map_some, Nat.reduceEqDiff, List.size_toArray, List.length_cons, List.length_nil, Nat.zero_add, Nat.reduceAdd, List.range_succ, List.range_zero, List.nil_append, List.cons_append, aBin, ofV, aBinI, bne_eq_decide', ne_eq, not_true_eq_false, decide_false, ↓guK_some, Option.bind_some, ↓tmK_some, ↓gsK_false, beq_self_eq_true, pickA, cond_false, Bool.not_true, ↓gdK_false, Bool.not_false, ↓gdK_true, reduceCtorEq, or_true, true_and]
            exact ⟨_, rfl, done_pur rfl rfl⟩
          · obtain ⟨m, n, hmn, pB, pm, pn⟩ := k1 hf hg rfl rfl
            simp only [Plc.av] at pB pm pn
            have hge : decide (n ≤ m) = true := decide_eq_true hmn
            refine walk hmix TOk.nil [] 3000 0 (by kernel_rfl) ?_
            simp (maxSteps := 2000000) only [hf, hg, kw0, List.getElem?_toArray, List.getElem?_cons_succ, List.getElem?_cons_zero, Go.Ab.put, ↓opK_some, ↓guK_none, kw1, roOf, aop, ev, upd, ↓reduceIte, ↓roK_ok, Option.map_some, Nat.reduceEqDiff, List.size_toArray, List.length_cons, List.length_nil, Nat.zero_add, Nat.reduceAdd, List.range_succ, List.range_zero, List.nil_append, List.cons_append, aBin, ofV, aBinI, bne_eq_decide', ne_eq, not_true_eq_false, decide_false, ↓guK_some, Option.bind_some, ↓tmK_some, ↓gsK_false, beq_self_eq_true, pickA, cond_false, Bool.not_true, ↓gdK_false, aload, ty0, rdCells, Nat.le_refl, List.drop_zero, List.take_succ_cons, List.take_nil, ty1, argTs, List.getD_cons_succ, List.getD_cons_zero, tcall, Tab.nil, List.map_cons, List.map_nil, ↓roK_call, true_and]
            refine AC.pur pB ?_
            refine walk hmix TOk.nil [] 3000 0 (by kernel_rfl) ?_
            simp (maxSteps := 2000000) only [kw0, List.getElem?_toArray, List.getElem?_cons_succ, List.getElem?_cons_zero, Go.Ab.put, ↓opK_some, ↓guK_none, kw1, roOf, aop, ev, upd, ↓reduceIte, ↓roK_ok, Option.map_some, Nat.reduceEqDiff, List.size_toArray, List.length_cons, List.length_nil, Nat.zero_add, Nat.reduceAdd, List.range_succ, List.range_zero, List.nil_append, List.cons_append, aload, ty0, rdCells, Nat.le_refl, List.drop_zero, List.take_succ_cons, List.take_nil, ty1, argTs, List.getD_cons_succ, List.getD_cons_zero, tcall, Tab.nil, List.map_cons, List.map_nil, ↓roK_call, true_and]
            refine AC.pur pm ?_
            refine walk hmix TOk.nil [] 3000 0 (by kernel_rfl) ?_
            simp (maxSteps := 2000000) only [kw0, List.getElem?_toArray, List.getElem?_cons_succ, List.getElem?_cons_zero, Go.Ab.put, ↓opK_some, ↓guK_none, kw1, roOf, aop, ev, upd, ↓reduceIte, ↓roK_ok, Option.map_some, Nat.reduceEqDiff, List.size_toArray, List.length_cons, List.length_nil, Nat.zero_add, Nat.reduceAdd, List.range_succ, List.range_zero, List.nil_append, List.cons_append, aload, ty0, rdCells, Nat.le_refl, List.drop_zero, List.take_succ_cons, List.take_nil, ty1, argTs, List.getD_cons_succ, List.getD_cons_zero, tcall, Tab.nil, List.map_cons, List.map_nil, ↓roK_call, true_and]
            refine AC.pur pn ?_
            refine walk hmix TOk.nil [] 3000 0 (by kernel_rfl) ?_
            simp (maxSteps := 2000000) only [kw0, List.getElem?_toArray, List.getElem?_cons_succ, List.getElem?_cons_zero, Go.Ab.put, ↓opK_some, ↓guK_none, kw1, roOf, aop, ev, upd, ↓reduceIte, ↓roK_ok, Option.map_some, Nat.reduceEqDiff, List.size_toArray, List.length_cons, List.length_nil, Nat.zero_add, Nat.reduceAdd, List.range_succ, List.range_zero, List.nil_append, List.cons_append, aBin, ofV, aBinI, beq_self_eq_true, ↓guK_some, Option.bind_some, ↓tmK_some, ↓gsK_true, pickA, cond_true, Bool.not_false, hge, reduceCtorEq, or_true, true_and]
            exact ⟨_, rfl, done_pur rfl rfl⟩
      · skip
        refine walk hmix TOk.nil [] 3000 0 (by kernel_rfl) ?_
        simp (maxSteps := 2000000) only [hf, kw0, List.getElem?_toArray, List.getElem?_cons_succ, List.getElem?_cons_zero, Go.Ab.put, ↓opK_some, ↓guK_none, kw1, roOf, aop, ev, upd, ↓reduceIte, ↓roK_ok, Option.map_some, Nat.reduceEqDiff, List.size_toArray, List.length_cons, List.length_nil, Nat.zero_add, Nat.reduceAdd, List.range_succ, List.range_zero, List.nil_append, List.cons_append, aBin, ofV, aBinI, bne_eq_decide', ne_eq, not_true_eq_false, decide_false, ↓guK_some, Option.bind_some, ↓tmK_some, ↓gsK_false, beq_self_eq_true, pickA, cond_false, Bool.not_true, ↓gdK_false, hg, not_false_eq_true, decide_true, ↓gsK_true, cond_true, ↓gdK_true, reduceCtorEq, or_true, true_and]
        exact ⟨_, rfl, done_pur rfl rfl⟩
    · skip
      refine walk hmix TOk.nil [] 3000 0 (by kernel_rfl) ?_
      simp (maxSteps := 2000000) only [kw0, List.getElem?_toArray, List.getElem?_cons_succ, List.getElem?_cons_zero, Go.Ab.put, ↓opK_some, ↓guK_none, kw1, roOf, aop, ev, upd, ↓reduceIte, ↓roK_ok, Option.map_some, Nat.reduceEqDiff, List.size_toArray, List.length_cons, List.length_nil, Nat.zero_add, Nat.reduceAdd, List.range_succ, List.range_zero, List.nil_append, List.cons_append, aBin, ofV, aBinI, bne_eq_decide', ne_eq, not_true_eq_false, decide_false, ↓guK_some, Option.bind_some, ↓tmK_some, ↓gsK_false, beq_self_eq_true, pickA, cond_false, Bool.not_true, ↓gdK_false, hf, not_false_eq_true, decide_true, ↓gsK_true, cond_true, ↓gdK_true, reduceCtorEq, or_true, true_and]
      exact ⟨_, rfl, done_pur rfl rfl⟩
  · by_cases hb6 : be = 6
    · have k := k6 hb6
      subst hb6
      by_cases hf : f = 0
      · by_cases hg : g = 0
        · cases is
          · skip
            refine walk hmix TOk.nil [] 3000 0 (by kernel_rfl) ?_
            simp (maxSteps := 2000000) only [hf, hg, kw0, List.getElem?_toArray, List.getElem?_cons_succ, List.getElem?_cons_zero, Go.Ab.put, ↓opK_some, ↓guK_none, kw1, roOf, aop, ev, upd, ↓reduceIte, ↓roK_ok, Option.map_some, Nat.reduceEqDiff, List.size_toArray, List.length_cons, List.length_nil, Nat.zero_add, Nat.reduceAdd, List.range_succ, List.range_zero, List.nil_append, List.cons_append, aBin, ofV, aBinI, beq_self_eq_true, ↓gdK_true, bne_eq_decide', ne_eq, not_true_eq_false, decide_false, ↓guK_some, Option.bind_some, ↓tmK_some, ↓gsK_false, pickA, cond_false, Bool.not_false, ↓gsK_true, cond_true, reduceCtorEq, or_true, true_and]
            exact ⟨_, rfl, done_pur rfl rfl⟩
          · cases hold
            · skip
              refine walk hmix TOk.nil [] 3000 0 (by kernel_rfl) ?_
              simp (maxSteps := 2000000) only [hf, hg, kw0, List.getElem?_toArray, List.getElem?_cons_succ, List.getElem?_cons_zero, Go.Ab.put, ↓opK_some, ↓guK_none, kw1, roOf, aop, ev, upd, ↓reduceIte, ↓roK_ok, Option.map_some, Nat.reduceEqDiff, List.size_toArray, List.length_cons, List.length_nil, Nat.zero_add, Nat.reduceAdd, List.range_succ, List.range_zero, List.nil_append, List.cons_append, aBin, ofV, aBinI, beq_self_eq_true, ↓gdK_true, bne_eq_decide', ne_eq, not_true_eq_false, decide_false, ↓guK_some, Option.bind_some, ↓tmK_some, ↓gsK_false, pickA, cond_false, Bool.not_true, Bool.not_false, reduceCtorEq, or_true, true_and]
              exact ⟨_, rfl, done_pur rfl rfl⟩
            · exact absurd ⟨hf, hg, rfl, rfl⟩ k
        · skip
          refine walk hmix TOk.nil [] 3000 0 (by kernel_rfl) ?_
          simp (maxSteps := 2000000) only [hf, kw0, List.getElem?_toArray, List.getElem?_cons_succ, List.getElem?_cons_zero, Go.Ab.put, ↓opK_some, ↓guK_none, kw1, roOf, aop, ev, upd, ↓reduceIte, ↓roK_ok, Option.map_some, Nat.reduceEqDiff, List.size_toArray, List.length_cons, List.length_nil, Nat.zero_add, Nat.reduceAdd, List.range_succ, List.range_zero, List.nil_append, List.cons_append, aBin, ofV, aBinI, beq_self_eq_true, ↓gdK_true, bne_eq_decide', ne_eq, not_true_eq_false, decide_false, ↓guK_some, Option.bind_some, ↓tmK_some, ↓gsK_false, hg, not_false_eq_true, decide_true, pickA, cond_false, ↓gsK_true, cond_true, reduceCtorEq, or_true, true_and]
          exact ⟨_, rfl, done_pur rfl rfl⟩
      · skip
        refine walk hmix TOk.nil [] 3000 0 (by kernel_rfl) ?_
        simp (maxSteps := 2000000) only [kw0, List.getElem?_toArray, List.getElem?_cons_succ, List.getElem?_cons_zero, Go.Ab.put, ↓opK_some, ↓guK_none, kw1, roOf, aop, ev, upd, ↓reduceIte, ↓roK_ok, Option.map_some, Nat.reduceEqDiff, List.size_toArray, List.length_cons, List.length_nil, Nat.zero_add, Nat.reduceAdd, List.range_succ, List.range_zero, List.nil_append, List.cons_append, aBin, ofV, aBinI, beq_self_eq_true, ↓gdK_true, bne_eq_decide', ne_eq, hf, not_false_eq_true, decide_true, ↓guK_some, Option.bind_some, ↓tmK_some, ↓gsK_true, pickA, cond_true, reduceCtorEq, or_true, true_and]
        exact ⟨_, rfl, done_pur rfl rfl⟩
    · have hz := k8 hbe hb6
      have heq := Plc.eq bp zPl
      rw [decide_eq_true hz] at heq
      simp only [Plc.av, zPl] at heq
      refine walk hmix TOk.nil [] 3000 0 (by kernel_rfl) ?_
      simp (maxSteps := 2000000) only [kw0, List.getElem?_toArray, List.getElem?_cons_succ, List.getElem?_cons_zero, Go.Ab.put, ↓opK_some, ↓guK_none, kw1, roOf, aop, ev, upd, ↓reduceIte, ↓roK_ok, Option.map_some, Nat.reduceEqDiff, List.size_toArray, List.length_cons, List.length_nil, Nat.zero_add, Nat.reduceAdd, List.range_succ, List.range_zero, List.nil_append, List.cons_append, aBin, ofV, aBinI, beq_eq_decide', hb6, decide_false, ↓gdK_false, bne_eq_decide', ne_eq, hbe, not_false_eq_true, decide_true, ↓gdK_true, aload, ty1, rdCells, Nat.le_refl, List.drop_zero, List.take_succ_cons, List.take_nil, aBuild, argTs, List.map_nil, aFill, aBinAgg, heq, reduceCtorEq, or_true, true_and]
      exact ⟨_, rfl, done_pur rfl rfl⟩
theorem cmpS_score {a b c : Int} {sc : Plc → Int} {X Y : Plc} (h : 0 ≤ cmpS a b c sc X Y) : sc Y ≤ sc X := by
  unfold cmpS cmp2 at h
  by_cases hlt : sc X < sc Y
  · have : cmpV (sc X) (sc Y) = -1 := by rw [cmpV, if_pos hlt]
    rw [this, orV, if_neg (by decide)] at h
    omega
  · omega
theorem bestLeast_law (a b c : Int) (w : Wnt) {s1 s2 : AV} (q1 : IsSet s1) (q2 : IsSet s2) (x : Plc) : Pur Tryz.prog GG 5 [.agg [I a, I b, I c], w.av, s1, s2, x.av] (B true) := by
  obtain ⟨e1, p1, _⟩ := check_ex q1 (manyV a b c)
  obtain ⟨e2, p2, _⟩ := check_ex q2 (3 * manyV a b c)
  obtain ⟨hh, pH, _⟩ := holds_ex a b c q1 q2 p1 p2 x
  have pI := spotsIs_pur a b c w x
  rcases best_all a b c w q1 q2 with hB | ⟨xs, ys, hx, hy, rfl, rfl, c1, c2, h⟩
  · exact least_walk q1 q2 hB pI pH (fun _ _ => rfl) (fun e => absurd e (by decide)) (fun e => absurd e (by decide))
  · obtain ⟨hd, hw⟩ := dwchk_ok.1 h
    have hB := best_is w hx hy c1 c2 h
    obtain ⟨hold, g, pH2, hg⟩ : ∃ (hold : Bool) (g : Int), Pur Tryz.prog GG 10 [.agg [I a, I b, I c], x.av, .isl (xs.map U), .isl (ys.map U)] (.tup [B hold, I g]) ∧ (g = 0 → x.ok a b c ∧ hold = holdV a b c xs ys x) := by
      by_cases hok : x.ok a b c
      · exact ⟨_, 0, holds_is hx hy c1 c2 x hok, fun _ => ⟨hok, rfl⟩⟩
      · rw [if_neg hok] at pH
        exact ⟨_, _, pH, fun e => absurd e (nok_pchk hok)⟩
    have hin : isE a b c w x = 0 → g = 0 → isV a b c w x = true → hold = true → x ∈ (wholeL a b c w).filter (holdV a b c xs ys) := fun h1 h2 h3 h4 => by
      obtain ⟨hok, hv⟩ := hg h2
      rw [isV, if_pos h1] at h3
      exact List.mem_filter.2 ⟨(wholeL_mem hd).2 ⟨hok, h3⟩, by rw [← hv]; exact h4⟩
    by_cases hF : (wholeL a b c w).filter (holdV a b c xs ys) = []
    · rw [if_pos hF, if_pos hF] at hB
      refine least_walk q1 q2 hB pI pH2 (fun _ e => absurd rfl e) (fun _ => ?_) (fun e => absurd e (by decide))
      rintro ⟨h1, h2, h3, h4⟩
      have := hin h1 h2 h3 h4
      rw [hF] at this
      cases this
    · rw [if_neg hF, if_neg hF] at hB
      obtain ⟨m1, m2⟩ := minF_least (a := a) (b := b) (c := c) (sc := scV a b c xs) (List.length_pos_iff.2 hF)
      generalize minF a b c (scV a b c xs) ((wholeL a b c w).filter (holdV a b c xs ys)) = bp at m1 m2 hB
      obtain ⟨m3, m4⟩ := List.mem_filter.1 m1
      obtain ⟨hok, hT⟩ := (wholeL_mem hd).1 m3
      refine least_walk q1 q2 hB pI pH2 (fun e => absurd rfl e) (fun e => absurd e (by decide)) (fun _ => ⟨?_, ?_, fun h1 h2 h3 h4 => ?_⟩)
      · have hisE : isE a b c w bp = 0 := by rw [isE, if_pos h]; exact ok_pchk hok
        have := spotsIs_pur a b c w bp
        rw [isV, hisE, if_pos rfl, hT] at this
        exact this
      · have := holds_is hx hy c1 c2 bp hok
        rw [m4] at this
        exact this
      · have hxm := hin h1 h2 h3 h4
        have hle := m2 x hxm
        have hxok := (hg h2).1
        refine ⟨_, _, cmpS_score hle, ?_, scV_pur hx c1 hxok, scV_pur hx c1 hok⟩
        have := better_of (x := x.x) (y := x.y) (z := x.z) (p := x.p) (q := x.q) (r := x.r) (s := x.s) (t := x.t) (u := x.u) (x' := bp.x) (y' := bp.y) (z' := bp.z) (p' := bp.p) (q' := bp.q) (r' := bp.r) (s' := bp.s) (t' := bp.t) (u' := bp.u) q1 hd (check_of c1) (ok_pchk hxok) (ok_pchk hok) (scV_pur hx c1 hxok) (scV_pur hx c1 hok) (fun hs => by rw [Plc.same.1 hs])
        have e : decide (cmpS a b c (scV a b c xs) x bp < 0) = false := decide_eq_false (by omega)
        unfold cmpS at e
        rw [e] at this
        exact this
end Go.Ab.Pd
