/- One of the texts that this claim stands on. -/
import Derived.Test.YtdfgdheehdabmaaGreatDoorEv28
import Derived.Test.YtdfgdheehdabmaaGreatDoorEv41
import Derived.Test.YtdfgdheehdabmaaGreatDoorEv39
set_option linter.unusedVariables false
set_option linter.unusedSimpArgs false
set_option linter.unusedSimpArgs false
set_option linter.unusedVariables false
namespace Go.Ab.Pd
open Go.Proofs
def inS (n : Int) (ws : List Int) (k : Int) : Bool := decide (0 ≤ k ∧ k < n) && bitAt ws k.toNat
set_option maxHeartbeats 4000000 in
set_option maxRecDepth 400000 in
theorem has_is {n : Int} {ws : List Int} (hw : ∀ w ∈ ws, inU w) (hc : schk n ws = 0) (k : Int) : Pur Tryz.prog GG 115 [I n, .isl (ws.map U), I k] (.tup [B (inS n ws k), I 0]) := by
  obtain ⟨hn, lw, _⟩ := (schk_bits hw).1 hc
  have p := scheck_pur n ws
  rw [hc] at p
  unfold inS
  by_cases h0 : 0 ≤ k
  · by_cases h1 : k < n
    · have hq0 : k.tdiv 64 = k / 64 := Int.tdiv_eq_ediv_of_nonneg h0
      have hm0 : k.tmod 64 = k % 64 := Int.tmod_eq_emod_of_nonneg h0
      have hkq : (k.tdiv 64).toNat < ws.length := by omega
      have hkw := wrapL (n := k.tdiv 64) (by omega) (by omega)
      have hkm := Int.tmod_nonneg 64 h0
      have hkd := Int.tdiv_nonneg (b := 64) h0 (by decide)
      have hgd := getD_map U ws 0 hkq
      have hgu := getD_inU hw (k.tdiv 64).toNat
      have d0 : decide (0 ≤ k) = true := decide_eq_true h0
      have d1 : decide (k < n) = true := decide_eq_true h1
      rw [decide_eq_true ⟨h0, h1⟩, Bool.true_and]
      refine goQ e115 T23_ok 0 ?_
      simp (maxSteps := 2000000) only [push_cast, seval, ↓kw2]
      refine AC.pur p ?_
      refine goW T23_ok [] 0 ?_
      simp (maxSteps := 2000000) only [push_cast, seval, ↓kw2, d0, d1, hkw, hgd, List.length_map]
      refine ⟨by omega, hkm, _, rfl, done_pur rfl ?_⟩
      unfold bitAt
      rw [show k.toNat / 64 = (k.tdiv 64).toNat by omega, show k.toNat % 64 = (k.tmod 64).toNat by omega]
      generalize ws.getD (k.tdiv 64).toNat 0 = w at hgu
      have hj : (k.tmod 64).toNat < 64 := by omega
      generalize (k.tmod 64).toNat = j at hj
      obtain ⟨x, rfl⟩ : ∃ x : Nat, w = (x : Int) := ⟨w.toNat, by unfold inU at hgu; omega⟩
      have hx : x < 2 ^ 64 := by unfold inU at hgu; omega
      have hle : x / 2 ^ j ≤ x := Nat.div_le_self _ _
      have a1 := andW_nat (x := ((x / 2 ^ j : Nat) : Int)) (y := 1) (nU (by omega)) ⟨by decide, by decide⟩
      unfold andW at a1
      rw [show min j IntKind.u64.bits = j from Nat.min_eq_left (by rw [show IntKind.u64.bits = 64 from rfl]; omega), show (2 : Int) ^ j = ((2 ^ j : Nat) : Int) by rw [Int.natCast_pow]; rfl, fdiv_nat, a1, Int.toNat_natCast, Int.toNat_natCast, Nat.testBit_eq_decide_div_mod_eq, show (1 : Int).toNat = 1 from rfl, Nat.and_one_is_mod]
      have : decide (((x / 2 ^ j % 2 : Nat) : Int) = 1) = decide (x / 2 ^ j % 2 = 1) := decide_eq_decide.2 (by omega)
      rw [this]
    · have d0 : decide (0 ≤ k) = true := decide_eq_true h0
      have d1 : decide (k < n) = false := decide_eq_false h1
      rw [decide_eq_false (fun h => h1 h.2), Bool.false_and]
      refine goQ e115 T23_ok 0 ?_
      simp (maxSteps := 2000000) only [push_cast, seval, ↓kw2]
      refine AC.pur p ?_
      refine goW T23_ok [] 0 ?_
      simp (maxSteps := 2000000) only [push_cast, seval, ↓kw2, d0, d1]
      exact ⟨_, rfl, done_pur rfl rfl⟩
  · have d0 : decide (0 ≤ k) = false := decide_eq_false h0
    rw [decide_eq_false (fun h => h0 h.1), Bool.false_and]
    refine goQ e115 T23_ok 0 ?_
    simp (maxSteps := 2000000) only [push_cast, seval, ↓kw2]
    refine AC.pur p ?_
    refine goW T23_ok [] 0 ?_
    simp (maxSteps := 2000000) only [push_cast, seval, ↓kw2, d0]
    exact ⟨_, rfl, done_pur rfl rfl⟩
end Go.Ab.Pd

set_option linter.unusedSimpArgs false
set_option linter.unusedVariables false
namespace Go.Ab.Pd
open Go.Proofs
theorem words_ext {xs ys : List Int} (hx : ∀ w ∈ xs, inU w) (hy : ∀ w ∈ ys, inU w) (hl : xs.length = ys.length) (h : ∀ m, bitAt xs m = bitAt ys m) : xs = ys := by
  refine List.ext_getElem hl fun i h1 h2 => ?_
  have u1 := hx _ (List.getElem_mem h1)
  have u2 := hy _ (List.getElem_mem h2)
  have : (xs[i]).toNat = (ys[i]).toNat := Nat.eq_of_testBit_eq fun j => by
    by_cases hj : j < 64
    · have := h (64 * i + j)
      unfold bitAt at this
      rw [show (64 * i + j) / 64 = i by omega, show (64 * i + j) % 64 = j by omega, show xs.getD i 0 = xs[i] by simp [List.getD, h1], show ys.getD i 0 = ys[i] by simp [List.getD, h2]] at this
      exact this
    · rw [Nat.testBit_lt_two_pow (Nat.lt_of_lt_of_le (lt_U u1) (Nat.pow_le_pow_right (by decide) (by omega))), Nat.testBit_lt_two_pow (Nat.lt_of_lt_of_le (lt_U u2) (Nat.pow_le_pow_right (by decide) (by omega)))]
  unfold inU at u1 u2
  omega
theorem own_srt {n : Int} (hn : 1 ≤ n ∧ n ≤ 12288) {l : List Int} (hl : ∀ k ∈ l, 0 ≤ k ∧ k < n) : ofL n (srt l) = ofL n l :=
  words_ext (ofL_inU _ _) (ofL_inU _ _) (by rw [ofL_length, ofL_length]) fun m => by
    rw [ofL_bit hn (fun k hk => hl k (srt_mem.1 hk)), ofL_bit hn hl]
    exact decide_eq_decide.2 srt_mem
theorem andn_sub {xs ys : List Int} (hx : ∀ w ∈ xs, inU w) {m : Nat} (h : bitAt (List.zipWith andnV xs ys) m = true) : bitAt xs m = true := by
  by_cases h1 : m / 64 < xs.length
  · by_cases h2 : m / 64 < ys.length
    · have e : (List.zipWith andnV xs ys).getD (m / 64) 0 = andnV (xs.getD (m / 64) 0) (ys.getD (m / 64) 0) := by
        simp [List.getD, List.getElem?_zipWith, h1, h2]
      unfold bitAt at h ⊢
      rw [e] at h
      have hu := getD_inU hx (m / 64)
      generalize xs.getD (m / 64) 0 = x at h hu
      unfold andnV at h
      rw [BitVec.toNat_and, toNat_U hu] at h
      have hle := Nat.and_le_left (n := x.toNat) (m := (~~~BitVec.ofInt IntKind.u64.bits (ys.getD (m / 64) 0)).toNat)
      have := lt_U hu
      rw [wrapU (nU (by omega)), Int.toNat_natCast, Nat.testBit_and, Bool.and_eq_true] at h
      exact h.1
    · rw [bitAt_out (by rw [List.length_zipWith]; omega)] at h; cases h
  · rw [bitAt_out (by rw [List.length_zipWith]; omega)] at h; cases h
theorem schk_andn {n : Int} {xs ys : List Int} (hx : ∀ w ∈ xs, inU w) (hl : ys.length = xs.length) (h1 : schk n xs = 0) : schk n (List.zipWith andnV xs ys) = 0 := by
  obtain ⟨hn, l1, b1⟩ := (schk_bits hx).1 h1
  refine (schk_bits (zip_inU andn_inU xs ys)).2 ⟨hn, by rw [List.length_zipWith]; omega, fun m hm => ?_⟩
  cases h : bitAt (List.zipWith andnV xs ys) m
  · rfl
  · have h2 := andn_sub hx h
    rw [b1 m hm] at h2
    cases h2
def sumC (ws : List Int) : Int := ((ws.map fun w => On.ones w.toNat).sum : Nat)
theorem manyW_sum {ws : List Int} (h : ∀ w ∈ ws, inU w) (hl : ws.length ≤ 2 ^ 16) : manyW ws = sumC ws := by
  obtain ⟨e, _⟩ := many_fold (acc := 0) h (by omega) (by omega)
  rw [Int.zero_add] at e
  exact e
def othW (n : Int) (ws : List Int) : List Int := List.zipWith andnV (ofL n (allL n)) ws
def scV (a b c : Int) (ws : List Int) (x : Plc) : Int :=
  IntKind.i64.wrap (IntKind.i64.wrap (2 * (listL (ofL (manyV a b c) (nodesL a b c x.x x.y x.z x.p x.q x.r))).foldl (stepM a b c (inS (manyV a b c) (List.zipWith andnV (othW (manyV a b c) ws) (ofL (manyV a b c) (nodesL a b c x.x x.y x.z x.p x.q x.r))))) 0)
    + sumC (ofL (3 * manyV a b c) (linksL a b c x.x x.y x.z x.p x.q x.r x.s x.t x.u)))
theorem scV_pur {a b c : Int} {ws : List Int} (hw : ∀ w ∈ ws, inU w) (hc : schk (manyV a b c) ws = 0) {X : Plc} (hp : X.ok a b c) : Pur Tryz.prog GG 37 [.agg [I a, I b, I c], X.av, .isl (ws.map U)] (.tup [I (scV a b c ws X), I 0]) := by
  obtain ⟨x, y, z, p, q, r, s, t, u⟩ := X
  have hd := hp.1
  have hb := hp.2.1
  have hmu := okD_mul hd
  have hmv : manyV a b c = a * b * c := by rw [manyV, if_pos hd]
  obtain ⟨hN1, lw, _⟩ := (schk_bits hw).1 hc
  have hN2 : 1 ≤ 3 * manyV a b c ∧ 3 * manyV a b c ≤ 12288 := by omega
  have hn : 1 ≤ manyV a b c ∧ manyV a b c ≤ 4096 := by omega
  have wv1 : wordsV (manyV a b c) = (manyV a b c + 63) / 64 := by rw [wordsV, if_pos (by omega)]
  have wv2 : wordsV (3 * manyV a b c) = (3 * manyV a b c + 63) / 64 := by rw [wordsV, if_pos (by omega)]
  have hlo : ∀ k ∈ nodesL a b c x y z p q r, 0 ≤ k ∧ k < manyV a b c := fun k hk => by rw [hmv]; exact (nodes_mem hd hb hk).2
  have hll : ∀ k ∈ linksL a b c x y z p q r s t u, 0 ≤ k ∧ k < 3 * manyV a b c := fun k hk => by rw [hmv]; exact links_mem hd hb k hk
  have hla : ∀ k ∈ allL (manyV a b c), 0 ≤ k ∧ k < manyV a b c := fun k hk => allL_mem hk
  have eo : ownW a b c x y z p q r = ofL (manyV a b c) (nodesL a b c x y z p q r) := own_srt hN1 hlo
  have lo := ofL_length (manyV a b c) (nodesL a b c x y z p q r)
  have la := ofL_length (manyV a b c) (allL (manyV a b c))
  have ll := ofL_length (3 * manyV a b c) (linksL a b c x y z p q r s t u)
  have io := ofL_inU (manyV a b c) (nodesL a b c x y z p q r)
  have ia := ofL_inU (manyV a b c) (allL (manyV a b c))
  have il := ofL_inU (3 * manyV a b c) (linksL a b c x y z p q r s t u)
  have so := schk_ofL hN1 hlo
  have sa := schk_ofL hN1 hla
  have sl := schk_ofL hN2 hll
  have pw := scheck_pur (manyV a b c) ws
  rw [hc] at pw
  have po := scheck_pur (manyV a b c) (ofL (manyV a b c) (nodesL a b c x y z p q r))
  rw [so] at po
  have pa := scheck_pur (manyV a b c) (ofL (manyV a b c) (allL (manyV a b c)))
  rw [sa] at pa
  have pl := scheck_pur (3 * manyV a b c) (ofL (3 * manyV a b c) (linksL a b c x y z p q r s t u))
  rw [sl] at pl
  have h1 := less_is (manyV a b c) ia hw (by omega) (by omega) (by omega) pa pw
  have ioth : ∀ w ∈ othW (manyV a b c) ws, inU w := zip_inU andn_inU _ _
  have loth : (othW (manyV a b c) ws).length = ws.length := by unfold othW; rw [List.length_zipWith]; omega
  have soth : schk (manyV a b c) (othW (manyV a b c) ws) = 0 := schk_andn ia (by omega) sa
  have ho := others_of hn (IsSet.isl hw) (IsSet.isl ioth) h1
  have pt := scheck_pur (manyV a b c) (othW (manyV a b c) ws)
  rw [soth] at pt
  have h2 := less_is (manyV a b c) ioth io (by omega) (by omega) (by omega) pt po
  have hifr : ∀ w ∈ List.zipWith andnV (othW (manyV a b c) ws) (ofL (manyV a b c) (nodesL a b c x y z p q r)), inU w := zip_inU andn_inU _ _
  have sfr := schk_andn (ys := ofL (manyV a b c) (nodesL a b c x y z p q r)) ioth (by omega) soth
  have hm := smany_ok (3 * manyV a b c) (ws := ofL (3 * manyV a b c) (linksL a b c x y z p q r s t u)) (by omega) pl
  rw [manyW_sum il (by omega)] at hm
  have hli := list_is (manyV a b c) io (by omega) po
  have hle := listL_length (ofL (manyV a b c) (nodesL a b c x y z p q r))
  have hop := open_of a b c (manyV a b c) (IsSet.isl io) (IsSet.isl hifr) (by omega) hli (has := inS (manyV a b c) _) fun k => ⟨0, has_is hifr sfr k⟩
  rw [← eo] at h2 hop
  have hfin := score_of (x := x) (y := y) (z := z) (p := p) (q := q) (r := r) (s := s) (t := t) (u := u) hp (IsSet.isl hw) pw (IsSet.isl ioth) (IsSet.isl (by rw [eo]; exact hifr)) ho h2 hm hop
  unfold scV
  simp only
  rw [← eo]
  exact hfin
end Go.Ab.Pd

set_option linter.unusedSimpArgs false
set_option linter.unusedVariables false
namespace Go.Ab.Pd
open Go.Proofs
section
variable {a b c : Int} {sc : Plc → Int}
theorem cmpS_neg (X Y : Plc) : cmpS a b c sc Y X = -cmpS a b c sc X Y := cmp2_neg ..
theorem cmpS_tri (X Y Z : Plc) : Tri (cmpS a b c sc X Y) (cmpS a b c sc Y Z) (cmpS a b c sc X Z) := Tri.cmp2 ..
theorem cmpS_self (X : Plc) : cmpS a b c sc X X = 0 := cmp2_self ..
theorem cmpS_zero {X Y : Plc} (hX : X.ok a b c) (hY : Y.ok a b c) (h : cmpS a b c sc X Y = 0) : X = Y := Plc.same.1 (cmp2_zero hX hY h)
theorem cmpS_trans {X Y Z : Plc} (h : 0 ≤ cmpS a b c sc X Y) (k : 0 ≤ cmpS a b c sc Y Z) : 0 ≤ cmpS a b c sc X Z := by
  have t := cmpS_tri (a := a) (b := b) (c := c) (sc := sc) Z Y X
  rw [cmpS_neg Y Z, cmpS_neg X Y, cmpS_neg X Z] at t
  obtain ⟨t1, t2, t3⟩ := t
  by_cases h1 : cmpS a b c sc X Y = 0
  · by_cases h2 : cmpS a b c sc Y Z = 0
    · have := t3 (by omega) (by omega); omega
    · have := t1 (by omega) (by omega); omega
  · have := t2 (by omega) (by omega); omega
theorem minL_least : ∀ (l : List Plc) (m : Plc), minL (ltS a b c sc) m l ∈ m :: l ∧ ∀ y ∈ m :: l, 0 ≤ cmpS a b c sc y (minL (ltS a b c sc) m l)
  | [], m => ⟨by simp [minL], fun y hy => by
    rw [List.mem_singleton] at hy
    rw [hy]
    show 0 ≤ cmpS a b c sc m m
    rw [cmpS_self]; decide⟩
  | x :: l, m => by
    show minL (ltS a b c sc) (if ltS a b c sc x m = true then x else m) l ∈ m :: x :: l ∧ ∀ y ∈ m :: x :: l, 0 ≤ cmpS a b c sc y (minL (ltS a b c sc) (if ltS a b c sc x m = true then x else m) l)
    by_cases h : ltS a b c sc x m = true
    · rw [if_pos h]
      obtain ⟨h1, h2⟩ := minL_least l x
      have hx : cmpS a b c sc x m < 0 := of_decide_eq_true h
      have hn := cmpS_neg (a := a) (b := b) (c := c) (sc := sc) x m
      refine ⟨List.mem_cons_of_mem _ h1, fun y hy => ?_⟩
      rcases List.mem_cons.1 hy with rfl | hy
      · exact cmpS_trans (Y := x) (by omega) (h2 x (by simp))
      · exact h2 y hy
    · rw [if_neg h]
      obtain ⟨h1, h2⟩ := minL_least l m
      have hx : ¬cmpS a b c sc x m < 0 := fun hh => h (decide_eq_true hh)
      refine ⟨?_, fun y hy => ?_⟩
      · rcases List.mem_cons.1 h1 with h1 | h1
        · rw [h1]; simp
        · simp [h1]
      · rcases List.mem_cons.1 hy with rfl | hy
        · exact h2 y (by simp)
        · rcases List.mem_cons.1 hy with rfl | hy
          · exact cmpS_trans (Y := m) (by omega) (h2 m (by simp))
          · exact h2 y (by simp [hy])
def minF (a b c : Int) (sc : Plc → Int) (F : List Plc) : Plc := minL (ltS a b c sc) (F.getD 0 default) (F.drop 1)
theorem minF_least {F : List Plc} (h : 0 < F.length) : minF a b c sc F ∈ F ∧ ∀ y ∈ F, 0 ≤ cmpS a b c sc y (minF a b c sc F) := by
  have e := drop_cons (default : Plc) h
  rw [List.drop_zero] at e
  have := minL_least (a := a) (b := b) (c := c) (sc := sc) (F.drop 1) (F.getD 0 default)
  rw [← e] at this
  exact this
theorem minF_is {F : List Plc} {p : Plc} (hp : p ∈ F) (hok : ∀ y ∈ F, y.ok a b c) (hle : ∀ y ∈ F, cmpS a b c sc p y ≤ 0) : minF a b c sc F = p := by
  obtain ⟨h1, h2⟩ := minF_least (a := a) (b := b) (c := c) (sc := sc) (List.length_pos_of_mem hp)
  have k1 := h2 p hp
  have k2 := hle _ h1
  exact (cmpS_zero (sc := sc) (hok p hp) (hok _ h1) (by omega)).symm
end
theorem best_is {a b c : Int} (w : Wnt) {xs ys : List Int} (hx : ∀ w ∈ xs, inU w) (hy : ∀ w ∈ ys, inU w) (c1 : schk (manyV a b c) xs = 0) (c2 : schk (3 * manyV a b c) ys = 0) (h : dwchk a b c w.p w.q w.r = 0) :
    Pur Tryz.prog GG 6 [.agg [I a, I b, I c], w.av, .isl (xs.map U), .isl (ys.map U)]
      (.tup [(if (wholeL a b c w).filter (holdV a b c xs ys) = [] then ⟨0, 0, 0, 0, 0, 0, false, false, false⟩ else minF a b c (scV a b c xs) ((wholeL a b c w).filter (holdV a b c xs ys)) : Plc).av, I (if (wholeL a b c w).filter (holdV a b c xs ys) = [] then 6 else 0)]) := by
  have hA := allS w hx hy c1 c2 h
  obtain ⟨hd, hw⟩ := dwchk_ok.1 h
  have hr := rsl_is (a := a) (b := b) (c := c) (w := w) (holdV a b c xs ys)
  have hle := Nat.le_trans (List.length_filter_le (holdV a b c xs ys) (wholeL a b c w)) (whole_le hd w)
  by_cases hF : (wholeL a b c w).filter (holdV a b c xs ys) = []
  · rw [if_pos hF, if_pos hF]
    rw [hF] at hA hr
    exact best_none (IsSet.isl hx) (IsSet.isl hy) hA hr
  · rw [if_neg hF, if_neg hF]
    have hne : ¬ wholeL a b c w = [] := fun e => hF (by rw [e]; rfl)
    have hrs : rsl a b c w ((wholeL a b c w).filter (holdV a b c xs ys)) = .isl (((wholeL a b c w).filter (holdV a b c xs ys)).map Plc.av) := by rw [rsl, if_neg hne]
    rw [hrs] at hA
    refine best_min (IsSet.isl hx) (IsSet.isl hy) (List.length_pos_iff.2 hF) (by omega) hA fun x hxm => ?_
    exact scV_pur hx c1 ((wholeL_mem hd).1 (List.mem_filter.1 hxm).1).1
theorem e56 : Ent Tryz.prog 56 Tryz.f56 [] 0 := ⟨Tryz.func56, rfl, by decide, by kernel_rfl, by kernel_rfl, by decide, by kernel_rfl⟩
attribute [push_cast] Tryz.f56
set_option maxHeartbeats 4000000 in
set_option maxRecDepth 400000 in
theorem line_pur : Pur Tryz.prog GG 56 [] (.agg [I 4, I 1, I 1]) := by
  refine goQ e56 TOk.nil 0 ?_
  simp (maxSteps := 2000000) only [push_cast, seval, ↓kw2]
  exact ⟨_, rfl, done_pur rfl rfl⟩
theorem e57 : Ent Tryz.prog 57 Tryz.f57 [] 0 := ⟨Tryz.func57, rfl, by decide, by kernel_rfl, by kernel_rfl, by decide, by kernel_rfl⟩
attribute [push_cast] Tryz.f57
set_option maxHeartbeats 4000000 in
set_option maxRecDepth 400000 in
theorem one_pur : Pur Tryz.prog GG 57 [] (WT 1 1 1 false false false false) := by
  refine goQ e57 TOk.nil 0 ?_
  simp (maxSteps := 2000000) only [push_cast, seval, ↓kw2]
  exact ⟨_, rfl, done_pur rfl rfl⟩
def wOne : Wnt := ⟨1, 1, 1, false, false, false, false⟩
def pAt (k : Int) : Plc := ⟨k, 0, 0, 1, 1, 1, false, false, false⟩
instance (w : Int) : Decidable (inU w) := by unfold inU; infer_instance
def exB (t k : Int) : Bool := decide (inU t) && decide (schk (manyV 4 1 1) [t] = 0) && decide (pAt k ∈ plL 4 1 1 wOne) && holdV 4 1 1 [t] [0] (pAt k) && (plL 4 1 1 wOne).all fun y => !holdV 4 1 1 [t] [0] y || decide (cmpS 4 1 1 (scV 4 1 1 [t]) (pAt k) y ≤ 0)
theorem exB1 : exB 0 0 = true := by decide +kernel
theorem exB2 : exB 1 1 = true := by decide +kernel
theorem exB3 : exB 5 1 = true := by decide +kernel
theorem exB4 : exB 3 2 = true := by decide +kernel
theorem best_ex {t k : Int} (h : exB t k = true) : Pur Tryz.prog GG 6 [.agg [I 4, I 1, I 1], wOne.av, .isl [U t], .isl [U 0]] (.tup [(pAt k).av, I 0]) := by
  unfold exB at h
  simp only [Bool.and_eq_true, decide_eq_true_eq, List.all_eq_true, Bool.or_eq_true, Bool.not_eq_true'] at h
  obtain ⟨⟨⟨⟨ht, hc⟩, hm⟩, hh⟩, hall⟩ := h
  have hx : ∀ w ∈ [t], inU w := fun w hw => by rw [List.mem_singleton.1 hw]; exact ht
  have hy : ∀ w ∈ [(0 : Int)], inU w := fun w hw => by rw [List.mem_singleton.1 hw]; exact inU_0
  have hb := best_is (a := 4) (b := 1) (c := 1) wOne hx hy hc (by decide) (by decide)
  have hd : okD 4 1 1 := by decide
  have hmem : ∀ x, x ∈ wholeL 4 1 1 wOne ↔ x ∈ plL 4 1 1 wOne := fun x => by
    rw [whole_mem, rawL, show wOne.turns = [wOne] from rfl, List.mem_flatMap]
    simp
  have hpm : pAt k ∈ (wholeL 4 1 1 wOne).filter (holdV 4 1 1 [t] [0]) := List.mem_filter.2 ⟨(hmem _).2 hm, hh⟩
  have hne : ¬(wholeL 4 1 1 wOne).filter (holdV 4 1 1 [t] [0]) = [] := fun e => by rw [e] at hpm; cases hpm
  rw [if_neg hne, if_neg hne, minF_is hpm (fun y hy => ((wholeL_mem hd).1 (List.mem_filter.1 hy).1).1) fun y hy => by
    obtain ⟨y1, y2⟩ := List.mem_filter.1 hy
    rcases hall y ((hmem y).1 y1) with h3 | h3
    · rw [y2] at h3; cases h3
    · exact h3] at hb
  exact hb
theorem e30 : Ent Tryz.prog 30 Tryz.f30 [] 2 := ⟨Tryz.func30, rfl, by decide, by kernel_rfl, by kernel_rfl, by decide, by kernel_rfl⟩
attribute [push_cast] Tryz.f30
set_option maxHeartbeats 4000000 in
set_option maxRecDepth 400000 in
theorem at15_pur {t k : Int} (h : exB t k = true) : Pur Tryz.prog GG 30 [U t, I k] (B true) := by
  have hb := best_ex h
  have heq := Plc.eq (pAt k) (pAt k)
  rw [decide_eq_true rfl] at heq
  simp only [Plc.av, pAt] at heq
  refine goQ e30 TOk.nil 0 ?_
  simp (maxSteps := 2000000) only [push_cast, seval, ↓kw2]
  refine AC.pur line_pur ?_
  refine goN ?_
  simp (maxSteps := 2000000) only [push_cast, seval, ↓kw2]
  refine AC.pur one_pur ?_
  refine goN ?_
  simp (maxSteps := 2000000) only [push_cast, seval, ↓kw2, getA0, getA, setA, get_concat]
  refine Own.freeze (f := 6) (pre := [.agg [I 4, I 1, I 1], WT 1 1 1 false false false false]) (post := [.sl 1 0 1 1]) (s := .sl 0 0 1 1) (es := [U t]) ?_ rfl ?_
  · exact Own.row (es := [U t]) rfl Nat.one_pos
  intro H1 h1
  rw [show frS [U t] = .isl [U t] from rfl]
  refine Own.freeze (f := 6) (pre := [.agg [I 4, I 1, I 1], WT 1 1 1 false false false false, .isl [U t]]) (post := []) (s := .sl 1 0 1 1) (es := [U 0]) (Own.row (es := [U 0]) ((h1 1 (by simp [ownId])).trans rfl) (by decide)) rfl ?_
  intro H2 _
  rw [show frS [U 0] = .isl [U 0] from rfl]
  refine AC.pur hb ?_
  show FW _ _ _ _ _ (upd _ 13 (.tup [PL k 0 0 1 1 1 false false false, I 0])) _ _
  refine goN ?_
  simp (maxSteps := 2000000) only [push_cast, seval, ↓kw2, getA0, getA, setA0, setA, get_concat, heq, aBinAgg]
  exact ⟨_, rfl, done_pur rfl rfl⟩
theorem e13 : Ent Tryz.prog 13 Tryz.f13 [] 0 := ⟨Tryz.func13, rfl, by decide, by kernel_rfl, by kernel_rfl, by decide, by kernel_rfl⟩
attribute [push_cast] Tryz.f13
set_option maxHeartbeats 4000000 in
set_option maxRecDepth 400000 in
theorem alive15 : Pur Tryz.prog GG 13 [] (B true) := by
  refine goQ e13 TOk.nil 0 ?_
  simp (maxSteps := 2000000) only [push_cast, seval, ↓kw2]
  refine AC.pur (at15_pur exB1) ?_
  refine goN ?_
  simp (maxSteps := 2000000) only [push_cast, seval, ↓kw2]
  refine AC.pur (at15_pur exB2) ?_
  refine goN ?_
  simp (maxSteps := 2000000) only [push_cast, seval, ↓kw2]
  refine AC.pur (at15_pur exB3) ?_
  refine goN ?_
  simp (maxSteps := 2000000) only [push_cast, seval, ↓kw2]
  refine AC.pur (at15_pur exB4) ?_
  refine goN ?_
  simp (maxSteps := 2000000) only [push_cast, seval, ↓kw2]
  exact ⟨_, rfl, done_pur rfl rfl⟩
end Go.Ab.Pd
