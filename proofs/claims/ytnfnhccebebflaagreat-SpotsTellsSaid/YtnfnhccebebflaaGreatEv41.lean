/- One of the texts that this claim stands on. -/
import Derived.Test.YtnfnhccebebflaaGreatEv40
import Derived.Test.YtnfnhccebebflaaGreatEv39
set_option linter.unusedVariables false
set_option linter.unusedSimpArgs false
set_option linter.unusedSimpArgs false
set_option linter.unusedVariables false
namespace Go.Ab.Pd
open Go.Proofs
def holdV (a b c : Int) (xs ys : List Int) (x : Plc) : Bool := (nodesL a b c x.x x.y x.z x.p x.q x.r).all (fun k => !bitAt xs k.toNat) && (linksL a b c x.x x.y x.z x.p x.q x.r x.s x.t x.u).all (fun k => !bitAt ys k.toNat)
set_option maxHeartbeats 8000000 in
set_option maxRecDepth 400000 in
theorem holds_is {a b c : Int} {xs ys : List Int} (hx : ∀ w ∈ xs, inU w) (hy : ∀ w ∈ ys, inU w) (c1 : schk (manyV a b c) xs = 0) (c2 : schk (3 * manyV a b c) ys = 0) (P0 : Plc) (hk : P0.ok a b c) :
    Pur Tryz.prog GG 33 [.agg [I a, I b, I c], P0.av, .isl (xs.map U), .isl (ys.map U)] (.tup [B (holdV a b c xs ys P0), I 0]) := by
  obtain ⟨x, y, z, p, q, r, s, t, u⟩ := P0
  have hd := hk.1
  have hb := hk.2.1
  have hmu := okD_mul hd
  have hmv : manyV a b c = a * b * c := by rw [manyV, if_pos hd]
  have hn : 0 ≤ manyV a b c ∧ manyV a b c ≤ 4096 := by omega
  obtain ⟨hN1, lx, _⟩ := (schk_bits hx).1 c1
  obtain ⟨hN2, ly, _⟩ := (schk_bits hy).1 c2
  have wv1 : wordsV (manyV a b c) = (manyV a b c + 63) / 64 := by rw [wordsV, if_pos (by omega)]
  have wv2 : wordsV (3 * manyV a b c) = (3 * manyV a b c + 63) / 64 := by rw [wordsV, if_pos (by omega)]
  have q1 : IsSet (.isl (xs.map U)) := .isl hx
  have q2 : IsSet (.isl (ys.map U)) := .isl hy
  have p1 := scheck_pur (manyV a b c) xs
  have p2 := scheck_pur (3 * manyV a b c) ys
  rw [c1] at p1
  rw [c2] at p2
  have hfs := fsets_pur q1 q2 hn p1 p2
  have hlo : ∀ k ∈ srt (nodesL a b c x y z p q r), 0 ≤ k ∧ k < manyV a b c := fun k hk => by rw [hmv]; exact (nodes_mem hd hb (srt_mem.1 hk)).2
  have hll : ∀ k ∈ linksL a b c x y z p q r s t u, 0 ≤ k ∧ k < 3 * manyV a b c := fun k hk => by rw [hmv]; exact links_mem hd hb k hk
  have io := ofL_inU (manyV a b c) (srt (nodesL a b c x y z p q r))
  have il := ofL_inU (3 * manyV a b c) (linksL a b c x y z p q r s t u)
  have lo := ofL_length (manyV a b c) (srt (nodesL a b c x y z p q r))
  have ll := ofL_length (3 * manyV a b c) (linksL a b c x y z p q r s t u)
  have so := schk_ofL hN1 hlo
  have sl := schk_ofL hN2 hll
  have co1 := scheck_pur (manyV a b c) (ofL (manyV a b c) (srt (nodesL a b c x y z p q r)))
  have co2 := scheck_pur (3 * manyV a b c) (ofL (3 * manyV a b c) (linksL a b c x y z p q r s t u))
  rw [so] at co1
  rw [sl] at co2
  have pa1 := and_ok (manyV a b c) io hx (by omega) (by omega) (by omega) co1 p1
  have pa2 := and_ok (3 * manyV a b c) il hy (by omega) (by omega) (by omega) co2 p2
  have cz1 := scheck_pur (manyV a b c) (List.zipWith andW (ofL (manyV a b c) (srt (nodesL a b c x y z p q r))) xs)
  have cz2 := scheck_pur (3 * manyV a b c) (List.zipWith andW (ofL (3 * manyV a b c) (linksL a b c x y z p q r s t u)) ys)
  rw [schk_and io hx so c1] at cz1
  rw [schk_and il hy sl c2] at cz2
  have pm1 := smany_ok (manyV a b c) (by rw [List.length_zipWith]; omega) cz1
  have pm2 := smany_ok (3 * manyV a b c) (by rw [List.length_zipWith]; omega) cz2
  obtain ⟨n1, m1⟩ := apart_bits hN1 hlo hx c1
  obtain ⟨n2, m2⟩ := apart_bits hN2 hll hy c2
  have w3 := wrapL (n := 3 * manyV a b c) (by omega) (by omega)
  have h1 := q1.pur
  have h2 := q2.pur
  obtain ⟨c11, c12, c13⟩ := q1.cell
  obtain ⟨c21, c22, c23⟩ := q2.cell
  rw [if_pos ⟨rfl, rfl⟩] at hfs
  have hV : holdV a b c xs ys ⟨x, y, z, p, q, r, s, t, u⟩ = decide (IntKind.i64.wrap (manyW (List.zipWith andW (ofL (manyV a b c) (srt (nodesL a b c x y z p q r))) xs) + manyW (List.zipWith andW (ofL (3 * manyV a b c) (linksL a b c x y z p q r s t u)) ys)) = 0) := by
    rw [wrapL (by omega) (by omega), Bool.eq_iff_iff, decide_eq_true_eq, holdV]
    simp only [Bool.and_eq_true, List.all_eq_true, Bool.not_eq_true']
    constructor
    · rintro ⟨k1, k2⟩
      rw [m1.2 fun k hk => k1 k (srt_mem.1 hk), m2.2 k2]; rfl
    · intro h0
      exact ⟨fun k hk => m1.1 (by omega) k (srt_mem.2 hk), m2.1 (by omega)⟩
  rw [hV]
  have hk' : okPl a b c x y z p q r s t u := hk
  show Pur Tryz.prog GG 33 [.agg [I a, I b, I c], PL x y z p q r s t u, .isl (xs.map U), .isl (ys.map U)] _
  generalize manyW (List.zipWith andW (ofL (manyV a b c) (srt (nodesL a b c x y z p q r))) xs) = M1 at pm1
  generalize manyW (List.zipWith andW (ofL (3 * manyV a b c) (linksL a b c x y z p q r s t u)) ys) = M2 at pm2
  refine goQ e33 T22_ok 0 ?_ (by simp [AV.purL, AV.pur, h1, h2])
  simp (maxSteps := 2000000) only [push_cast, seval, ↓kw2, hk']
  refine AC.pur hfs ?_
  refine goW T22_ok [] 0 ?_
  simp (maxSteps := 2000000) only [push_cast, seval, ↓kw2]
  refine both_ac hn pa1 pa2 ?_
  refine goW T22_ok [] 0 ?_
  simp (maxSteps := 2000000) only [push_cast, seval, ↓kw2]
  refine AC.pur pm1 ?_
  refine goW T22_ok [] 0 ?_
  simp (maxSteps := 2000000) only [push_cast, seval, ↓kw2, w3]
  refine AC.pur pm2 ?_
  refine goW T22_ok [] 0 ?_
  simp (maxSteps := 2000000) only [push_cast, seval, ↓kw2]
  exact ⟨_, rfl, done_pur rfl rfl⟩
end Go.Ab.Pd

set_option linter.unusedSimpArgs false
set_option linter.unusedVariables false
namespace Go.Ab.Pd
open Go.Proofs
def axN (n x v : Int) (k : Nat) : Bool := (List.range k).any fun j => decide ((x + (j : Int)).tmod n = v)
theorem axN_succ (n x v : Int) (k : Nat) : axN n x v (k + 1) = (axN n x v k || decide ((x + (k : Int)).tmod n = v)) := by
  unfold axN
  rw [List.range_succ, List.any_append]
  simp
theorem axN_iff {n x v : Int} {k : Nat} : axN n x v k = true ↔ ∃ i : Int, (0 ≤ i ∧ i < k) ∧ (x + i).tmod n = v := by
  unfold axN
  rw [List.any_eq_true]
  constructor
  · rintro ⟨j, hj, h⟩
    exact ⟨j, ⟨by omega, by have := List.mem_range.1 hj; omega⟩, of_decide_eq_true h⟩
  · rintro ⟨i, ⟨h0, h1⟩, h⟩
    refine ⟨i.toNat, List.mem_range.2 (by omega), decide_eq_true ?_⟩
    rw [show ((i.toNat : Nat) : Int) = i by omega]
    exact h
def inB (a b c x y z p q r m : Int) : Bool := axN a x (ofX a b c m) p.toNat && (axN b y (ofY a b c m) q.toNat && axN c z (ofZ a b c m) r.toNat)
theorem mem_nodes {a b c x y z p q r m : Int} : m ∈ nodesL a b c x y z p q r ↔ ∃ i j k : Int, (0 ≤ i ∧ i < p) ∧ (0 ≤ j ∧ j < q) ∧ (0 ≤ k ∧ k < r) ∧ m = nodeV a b c x y z i j k := by
  unfold nodesL nodesY nodesX
  constructor
  · intro h
    obtain ⟨k, k1, k2, h⟩ := mem_upto h
    obtain ⟨j, j1, j2, h⟩ := mem_upto h
    obtain ⟨i, i1, i2, h⟩ := mem_upto h
    exact ⟨i, j, k, by omega, by omega, by omega, by simpa using h⟩
  · rintro ⟨i, j, k, hi, hj, hk, rfl⟩
    exact upto_mem (i := k) (by omega) (by omega) (upto_mem (i := j) (by omega) (by omega) (upto_mem (i := i) (by omega) (by omega) (by simp)))
theorem at_of {a b c m : Int} (h : inM a b c m) : atV a b c (ofX a b c m) (ofY a b c m) (ofZ a b c m) = m ∧ okP a b c (ofX a b c m) (ofY a b c m) (ofZ a b c m) := by
  obtain ⟨h1, h2, h3, h4, h5, h6⟩ := of_bounds h
  have hp : okP a b c (ofX a b c m) (ofY a b c m) (ofZ a b c m) := ⟨h1, h2, h3⟩
  refine ⟨?_, hp⟩
  rw [atV, if_pos ⟨h.1, hp⟩, ofX, if_pos h, ofY, if_pos h, ofZ, if_pos h]
  have e1 := Int.emod_add_mul_ediv m a
  have e2 := Int.emod_add_mul_ediv (m / a) b
  have e3 : m / (a * b) = m / a / b := (Int.ediv_ediv_of_nonneg (by omega)).symm
  have e4 : m / a / b < c := by
    have hm := h.2.2
    have hmul : a * b * c = a * (b * c) := Int.mul_assoc _ _ _
    have s1 : m / a < b * c := Int.ediv_lt_of_lt_mul (by omega) (by rw [Int.mul_comm, ← hmul]; exact hm)
    exact Int.ediv_lt_of_lt_mul (by omega) (by rw [Int.mul_comm]; exact s1)
  have e5 : 0 ≤ m / a / b := Int.ediv_nonneg (Int.ediv_nonneg h.2.1 (by omega)) (by omega)
  rw [e3, Int.emod_eq_of_lt e5 e4, Int.mul_assoc]
  rw [Int.add_assoc, ← Int.mul_add, e2]
  exact e1
theorem at_eq {a b c m x y z : Int} (h : inM a b c m) (hp : okP a b c x y z) : m = atV a b c x y z ↔ x = ofX a b c m ∧ y = ofY a b c m ∧ z = ofZ a b c m := by
  obtain ⟨e, hq⟩ := at_of h
  constructor
  · intro hm
    exact at_inj h.1 hp hq (by rw [e]; exact hm.symm)
  · rintro ⟨rfl, rfl, rfl⟩
    exact e.symm
theorem inB_iff {a b c x y z p q r m : Int} (h : inM a b c m) (hb : okB a b c x y z p q r) : inB a b c x y z p q r m = true ↔ m ∈ nodesL a b c x y z p q r := by
  unfold inB
  rw [Bool.and_eq_true, Bool.and_eq_true, axN_iff, axN_iff, axN_iff, mem_nodes]
  unfold okB ok1 at hb
  constructor
  · rintro ⟨⟨i, hi, ei⟩, ⟨j, hj, ej⟩, ⟨k, hk, ek⟩⟩
    refine ⟨i, j, k, by omega, by omega, by omega, ?_⟩
    unfold nodeV
    exact (at_eq h (okP_tmod h.1 (by omega) (by omega) (by omega))).2 ⟨ei, ej, ek⟩
  · rintro ⟨i, j, k, hi, hj, hk, e⟩
    unfold nodeV at e
    obtain ⟨e1, e2, e3⟩ := (at_eq h (okP_tmod h.1 (by omega) (by omega) (by omega))).1 e
    exact ⟨⟨i, by omega, e1⟩, ⟨j, by omega, e2⟩, ⟨k, by omega, e3⟩⟩
def boxL (a b c x y z p q r : Int) : List Int := ((List.range (a * b * c).toNat).map Int.ofNat).filter fun m => inB a b c x y z p q r m
theorem boxL_mem {a b c x y z p q r m : Int} (hd : okD a b c) (hb : okB a b c x y z p q r) : m ∈ boxL a b c x y z p q r ↔ m ∈ nodesL a b c x y z p q r := by
  unfold boxL
  rw [List.mem_filter, List.mem_map]
  constructor
  · rintro ⟨⟨k, hk, rfl⟩, h⟩
    have hk := List.mem_range.1 hk
    exact (inB_iff ⟨hd, by simp, by simp; omega⟩ hb).1 h
  · intro h
    have hm := nodes_mem hd hb h
    refine ⟨⟨m.toNat, List.mem_range.2 (by have := hm.2; omega), by have := hm.2; simp; omega⟩, (inB_iff hm hb).2 h⟩
def cooV (a b c m k : Int) : Int := if k = 0 then ofX a b c m else if k = 1 then ofY a b c m else ofZ a b c m
def amongV (a b c k m o : Int) (n : Nat) : Bool := (List.range n).any fun i => decide (stV a b c m k (i : Int) = o)
theorem among_succ (a b c k m o : Int) (n : Nat) : amongV a b c k m o (n + 1) = (amongV a b c k m o n || decide (stV a b c m k (n : Int) = o)) := by
  unfold amongV
  rw [List.range_succ, List.any_append]
  simp
def takenL (a b c k m : Int) (n : Nat) : List Int := if 1 < dimV a b c k then (((List.range (a * b * c).toNat).map Int.ofNat).filter fun o => amongV a b c k m o n).map fun o => k * (a * b * c) + o else []
def tookL (a b c k m s : Int) (t : Bool) : List Int := if s = 1 then [] else takenL a b c k m (runN (dimV a b c k) s t).toNat
theorem dimV_in {a b c k : Int} (hd : okD a b c) : 1 ≤ dimV a b c k ∧ dimV a b c k ≤ 16 := by
  unfold okD at hd
  unfold dimV
  split
  · exact hd.1
  · split
    · exact hd.2.1
    · exact hd.2.2
theorem took_mem {a b c k m s : Int} {t : Bool} (hk : 0 ≤ k ∧ k ≤ 2) (hm : inM a b c m) (hs : 1 ≤ s ∧ s ≤ dimV a b c k) (x : Int) : x ∈ tookL a b c k m s t ↔ x ∈ runLs a b c k m s t := by
  unfold tookL runLs
  by_cases h1 : s = 1
  · rw [if_pos h1, if_pos h1]
  · have hdim := dimV_in (k := k) hm.1
    rw [if_neg h1, if_neg h1, srt_mem, takenL, if_pos (by omega), runL]
    have hn : ¬dimV a b c k = 1 := by omega
    have hmv : manyV a b c = a * b * c := by rw [manyV, if_pos hm.1]
    have hrv : ∀ i, runV a b c k m i = k * (a * b * c) + stV a b c m k i := fun i => by
      obtain ⟨h2, h3, h4⟩ := step_ok (s := i) hk hm
      unfold runV linkV
      rw [if_pos ⟨ask_ok hk ⟨hm.1, h3, h4⟩, hn⟩, hmv]
    generalize (runN (dimV a b c k) s t) = n
    constructor
    · intro h
      obtain ⟨o, ho, rfl⟩ := List.mem_map.1 h
      obtain ⟨_, ho⟩ := List.mem_filter.1 ho
      unfold amongV at ho
      obtain ⟨i, hi, e⟩ := List.any_eq_true.1 ho
      have hi := List.mem_range.1 hi
      refine upto_mem (i := (i : Int)) (by omega) (by omega) ?_
      rw [hrv, of_decide_eq_true e]
      simp
    · intro h
      obtain ⟨i, h1, h2, h⟩ := mem_upto h
      rw [List.mem_singleton] at h
      obtain ⟨_, h3, h4⟩ := step_ok (s := i) hk hm
      rw [h, hrv]
      refine List.mem_map.2 ⟨stV a b c m k i, List.mem_filter.2 ⟨List.mem_map.2 ⟨(stV a b c m k i).toNat, List.mem_range.2 (by omega), by simp; omega⟩, ?_⟩, rfl⟩
      unfold amongV
      refine List.any_eq_true.2 ⟨i.toNat, List.mem_range.2 (by omega), decide_eq_true ?_⟩
      rw [show ((i.toNat : Nat) : Int) = i by omega]
def cabAx (a b c x y z p q r k base s : Int) (t : Bool) : List Int := ((boxL a b c x y z p q r).filter fun m => decide (cooV a b c m k = base)).flatMap fun m => tookL a b c k m s t
def cabL (a b c x y z p q r : Int) (s t u : Bool) : List Int := cabAx a b c x y z p q r 0 x p s ++ (cabAx a b c x y z p q r 1 y q t ++ cabAx a b c x y z p q r 2 z r u)
theorem tmod_0 {a x : Int} (h : 0 ≤ x ∧ x < a) : (x + 0).tmod a = x := by
  rw [Int.add_zero, Int.tmod_eq_emod_of_nonneg h.1, Int.emod_eq_of_lt h.1 h.2]
theorem tmod_base {a x i : Int} (h : 0 ≤ x ∧ x < a) (hi : 0 ≤ i ∧ i < a) (e : (x + i).tmod a = x) : i = 0 := by
  rw [Int.tmod_eq_emod_of_nonneg (by omega)] at e
  by_cases h1 : x + i < a
  · rw [Int.emod_eq_of_lt (by omega) h1] at e
    omega
  · rw [← Int.sub_emod_right, Int.emod_eq_of_lt (by omega) (by omega)] at e
    omega
theorem coo_node {a b c x y z i j k : Int} (hd : okD a b c) (h1 : 0 ≤ x + i) (h2 : 0 ≤ y + j) (h3 : 0 ≤ z + k) :
    ofX a b c (nodeV a b c x y z i j k) = (x + i).tmod a ∧ ofY a b c (nodeV a b c x y z i j k) = (y + j).tmod b ∧ ofZ a b c (nodeV a b c x y z i j k) = (z + k).tmod c :=
  of_at hd (okP_tmod hd h1 h2 h3)
theorem cabAx_mem {a b c x y z p q r : Int} {s t u : Bool} (hd : okD a b c) (hb : okB a b c x y z p q r) {k p' q' r' n : Int} {e : Bool} {base : Int} (hx : axisOf p q r s t u k p' q' r' n e) (hbase : base = if k = 0 then x else if k = 1 then y else z) (l : Int) :
    l ∈ cabAx a b c x y z p q r k base n e ↔ l ∈ alongL a b c x y z k p' q' r' n e := by
  unfold cabAx alongL
  rw [List.mem_flatMap, List.mem_flatMap]
  have hk : 0 ≤ k ∧ k ≤ 2 := by unfold axisOf at hx; omega
  have hn : 1 ≤ n ∧ n ≤ dimV a b c k := by
    unfold okB ok1 at hb
    unfold dimV
    unfold axisOf at hx
    rcases hx with ⟨rfl, _, _, _, rfl, _⟩ | ⟨rfl, _, _, _, rfl, _⟩ | ⟨rfl, _, _, _, rfl, _⟩ <;> simp <;> omega
  have key : ∀ m, m ∈ (boxL a b c x y z p q r).filter (fun m => decide (cooV a b c m k = base)) ↔ m ∈ nodesL a b c x y z p' q' r' := by
    intro m
    rw [List.mem_filter, boxL_mem hd hb, mem_nodes, mem_nodes, decide_eq_true_eq]
    unfold okB ok1 at hb
    unfold cooV
    rcases hx with ⟨rfl, rfl, rfl, rfl, rfl, rfl⟩ | ⟨rfl, rfl, rfl, rfl, rfl, rfl⟩ | ⟨rfl, rfl, rfl, rfl, rfl, rfl⟩
    · simp only [if_true] at hbase ⊢
      subst hbase
      constructor
      · rintro ⟨⟨i, j, k, hi, hj, hk, rfl⟩, h⟩
        rw [(coo_node hd (by omega) (by omega) (by omega)).1] at h
        have := tmod_base (by omega) (by omega) h
        exact ⟨i, j, k, by omega, hj, hk, rfl⟩
      · rintro ⟨i, j, k, hi, hj, hk, rfl⟩
        refine ⟨⟨i, j, k, by omega, hj, hk, rfl⟩, ?_⟩
        rw [(coo_node hd (by omega) (by omega) (by omega)).1, show i = 0 by omega]
        exact tmod_0 (by omega)
    · simp only [if_neg (by decide : ¬(1 : Int) = 0), if_true] at hbase ⊢
      subst hbase
      constructor
      · rintro ⟨⟨i, j, k, hi, hj, hk, rfl⟩, h⟩
        rw [(coo_node hd (by omega) (by omega) (by omega)).2.1] at h
        have := tmod_base (by omega) (by omega) h
        exact ⟨i, j, k, hi, by omega, hk, rfl⟩
      · rintro ⟨i, j, k, hi, hj, hk, rfl⟩
        refine ⟨⟨i, j, k, hi, by omega, hk, rfl⟩, ?_⟩
        rw [(coo_node hd (by omega) (by omega) (by omega)).2.1, show j = 0 by omega]
        exact tmod_0 (by omega)
    · simp only [if_neg (by decide : ¬(2 : Int) = 0), if_neg (by decide : ¬(2 : Int) = 1)] at hbase ⊢
      subst hbase
      constructor
      · rintro ⟨⟨i, j, k, hi, hj, hk, rfl⟩, h⟩
        rw [(coo_node hd (by omega) (by omega) (by omega)).2.2] at h
        have := tmod_base (by omega) (by omega) h
        exact ⟨i, j, k, hi, hj, by omega, rfl⟩
      · rintro ⟨i, j, k, hi, hj, hk, rfl⟩
        refine ⟨⟨i, j, k, hi, hj, by omega, rfl⟩, ?_⟩
        rw [(coo_node hd (by omega) (by omega) (by omega)).2.2, show k = 0 by omega]
        exact tmod_0 (by omega)
  have hin : ∀ m, m ∈ nodesL a b c x y z p' q' r' → inM a b c m := fun m hm => by
    have := (key m).2 hm
    exact nodes_mem hd hb ((boxL_mem hd hb).1 (List.mem_filter.1 this).1)
  constructor
  · rintro ⟨m, hm, hl⟩
    have hm' := (key m).1 hm
    exact ⟨m, srt_mem.2 hm', (took_mem hk (hin m hm') hn l).1 hl⟩
  · rintro ⟨m, hm, hl⟩
    have hm' := srt_mem.1 hm
    exact ⟨m, (key m).2 hm', (took_mem hk (hin m hm') hn l).2 hl⟩
theorem cabL_mem {a b c x y z p q r : Int} {s t u : Bool} (hd : okD a b c) (hb : okB a b c x y z p q r) (l : Int) : l ∈ cabL a b c x y z p q r s t u ↔ l ∈ linksL a b c x y z p q r s t u := by
  unfold cabL linksL
  rw [List.mem_append, List.mem_append, List.mem_append, List.mem_append,
    cabAx_mem (s := s) (t := t) (u := u) (base := x) hd hb (.inl ⟨rfl, rfl, rfl, rfl, rfl, rfl⟩) rfl l, cabAx_mem (s := s) (t := t) (u := u) (base := y) hd hb (.inr (.inl ⟨rfl, rfl, rfl, rfl, rfl, rfl⟩)) rfl l, cabAx_mem (s := s) (t := t) (u := u) (base := z) hd hb (.inr (.inr ⟨rfl, rfl, rfl, rfl, rfl, rfl⟩)) rfl l, or_assoc]
end Go.Ab.Pd

set_option linter.unusedSimpArgs false
set_option linter.unusedVariables false
namespace Go.Ab.Pd
open Go.Proofs
def outL {α : Type} (less : α → α → Bool) (p : α) : List α → Bool → List α
  | [], d => if d = true then [] else [p]
  | y :: l, d => if (!d && less p y) = true then p :: y :: outL less p l true else y :: outL less p l d
theorem outL_true {α : Type} (less : α → α → Bool) (p : α) : ∀ l : List α, outL less p l true = l
  | [] => rfl
  | y :: l => by
    unfold outL
    rw [if_neg (by simp), outL_true less p l]
theorem outL_perm {α : Type} (less : α → α → Bool) (p : α) : ∀ l : List α, (outL less p l false).Perm (p :: l)
  | [] => by unfold outL; rw [if_neg (by decide)]
  | y :: l => by
    unfold outL
    split
    · rw [outL_true]
    · exact ((outL_perm less p l).cons y).trans (List.Perm.swap p y l)
theorem outL_sorted {α : Type} {less : α → α → Bool} {p : α} : ∀ {l : List α}, l.Pairwise (fun x y => less x y = true) → (∀ y ∈ l, less p y = true ∨ less y p = true) → (∀ x ∈ p :: l, ∀ y ∈ p :: l, ∀ z ∈ p :: l, less x y = true → less y z = true → less x z = true) → (outL less p l false).Pairwise fun x y => less x y = true
  | [], _, _, _ => by unfold outL; rw [if_neg (by decide)]; simp
  | y :: l, hs, ht, htr => by
    rw [List.pairwise_cons] at hs
    unfold outL
    split
    · rename_i h
      have h : less p y = true := by simpa using h
      rw [outL_true, List.pairwise_cons, List.pairwise_cons]
      refine ⟨fun z hz => ?_, hs.1, hs.2⟩
      rcases List.mem_cons.1 hz with rfl | hz
      · exact h
      · exact htr p (by simp) y (by simp) z (by simp [hz]) h (hs.1 z hz)
    · rename_i h
      have h : ¬less p y = true := by simpa using h
      have hy : less y p = true := (ht y (by simp)).resolve_left h
      rw [List.pairwise_cons]
      refine ⟨fun z hz => ?_, outL_sorted hs.2 (fun z hz => ht z (by simp [hz])) fun x hx y' hy' z hz => htr x ?_ y' ?_ z ?_⟩
      · rcases List.mem_cons.1 ((outL_perm less p l).mem_iff.1 hz) with rfl | hz
        · exact hy
        · exact hs.1 z hz
      · rcases List.mem_cons.1 hx with rfl | hx <;> simp [*]
      · rcases List.mem_cons.1 hy' with rfl | hx <;> simp [*]
      · rcases List.mem_cons.1 hz with rfl | hx <;> simp [*]
def putL {α : Type} [DecidableEq α] (less : α → α → Bool) (l : List α) (p : α) : List α := if p ∈ l then l else outL less p l false
theorem putL_mem {α : Type} [DecidableEq α] {less : α → α → Bool} {l : List α} {p x : α} : x ∈ putL less l p ↔ x = p ∨ x ∈ l := by
  unfold putL
  split
  · constructor
    · exact .inr
    · rintro (rfl | h) <;> assumption
  · rw [(outL_perm less p l).mem_iff, List.mem_cons]
theorem putL_nodup {α : Type} [DecidableEq α] {less : α → α → Bool} {l : List α} {p : α} (h : l.Nodup) : (putL less l p).Nodup := by
  unfold putL
  split
  · exact h
  · rename_i hn
    exact (outL_perm less p l).nodup_iff.2 (List.nodup_cons.2 ⟨hn, h⟩)
theorem putL_len {α : Type} [DecidableEq α] {less : α → α → Bool} {l : List α} {p : α} : (putL less l p).length = if p ∈ l then l.length else l.length + 1 := by
  unfold putL
  split
  · rfl
  · rw [(outL_perm less p l).length_eq, List.length_cons]
theorem putL_sorted {α : Type} [DecidableEq α] {less : α → α → Bool} {p : α} {l : List α} (hs : l.Pairwise fun x y => less x y = true) (ht : ∀ y ∈ l, ¬p = y → less p y = true ∨ less y p = true) (htr : ∀ x ∈ p :: l, ∀ y ∈ p :: l, ∀ z ∈ p :: l, less x y = true → less y z = true → less x z = true) : (putL less l p).Pairwise fun x y => less x y = true := by
  unfold putL
  split
  · exact hs
  · rename_i hn
    exact outL_sorted hs (fun y hy => ht y hy fun e => hn (e ▸ hy)) htr
def lessP (x y : Plc) : Bool :=
  if x.p = y.p then if x.q = y.q then if x.r = y.r then if x.s = y.s then if x.t = y.t then if x.u = y.u then false else y.u else y.t else y.s else decide (x.r < y.r) else decide (x.q < y.q) else decide (x.p < y.p)
theorem cmpV_lt {m n : Int} (h : ¬m = n) : cmpV m n < 0 ↔ m < n := by unfold cmpV; split <;> (try split) <;> omega
theorem cmpV_bit {s t : Bool} (h : ¬s = t) : cmpV (bitV s) (bitV t) < 0 ↔ t = true := by
  revert h
  cases s <;> cases t <;> decide
theorem cmpV_ne {m n : Int} (h : ¬m = n) : ¬cmpV m n = 0 := fun e => h (cmpV_zero.1 e)
theorem bit_ne {s t : Bool} (h : ¬s = t) : ¬bitV s = bitV t := by
  revert h
  cases s <;> cases t <;> decide
theorem less_cmp {a b c : Int} {x y : Plc} (h1 : x.x = y.x) (h2 : x.y = y.y) (h3 : x.z = y.z) : lessP x y = decide (Plc.cmp a b c x y < 0) := by
  rw [Plc.cmp_eq, h1, h2, h3, orV_0 (cmpV_self _)]
  unfold lessP
  by_cases e1 : x.p = y.p
  · rw [if_pos e1, e1, orV_0 (cmpV_self _)]
    by_cases e2 : x.q = y.q
    · rw [if_pos e2, e2, orV_0 (cmpV_self _)]
      by_cases e3 : x.r = y.r
      · rw [if_pos e3, e3, orV_0 (cmpV_self _)]
        by_cases e4 : x.s = y.s
        · rw [if_pos e4, e4, orV_0 (cmpV_self _)]
          by_cases e5 : x.t = y.t
          · rw [if_pos e5, e5, orV_0 (cmpV_self _)]
            by_cases e6 : x.u = y.u
            · rw [if_pos e6, e6, orV_0 (cmpV_self _)]; rfl
            · rw [if_neg e6, orV_1 (cmpV_ne (bit_ne e6)), Bool.eq_iff_iff, decide_eq_true_iff, cmpV_bit e6]
          · rw [if_neg e5, orV_1 (cmpV_ne (bit_ne e5)), Bool.eq_iff_iff, decide_eq_true_iff, cmpV_bit e5]
        · rw [if_neg e4, orV_1 (cmpV_ne (bit_ne e4)), Bool.eq_iff_iff, decide_eq_true_iff, cmpV_bit e4]
      · rw [if_neg e3, orV_1 (cmpV_ne e3), Bool.eq_iff_iff, decide_eq_true_iff, decide_eq_true_iff, cmpV_lt e3]
    · rw [if_neg e2, orV_1 (cmpV_ne e2), Bool.eq_iff_iff, decide_eq_true_iff, decide_eq_true_iff, cmpV_lt e2]
  · rw [if_neg e1, orV_1 (cmpV_ne e1), Bool.eq_iff_iff, decide_eq_true_iff, decide_eq_true_iff, cmpV_lt e1]
def hereL (a b c m : Int) (L : List Wnt) : List Plc := L.foldl (fun l t => if (plOf a b c t m).ok a b c then putL lessP l (plOf a b c t m) else l) []
def everyL (a b c : Int) (L : List Wnt) (n : Nat) : List Plc := (List.range n).flatMap fun i : Nat => hereL a b c (i : Int) L
theorem here_go {a b c m : Int} : ∀ (L : List Wnt) (l : List Plc), (∀ x ∈ l, x.x = ofX a b c m ∧ x.y = ofY a b c m ∧ x.z = ofZ a b c m ∧ x.ok a b c) → Rises a b c l →
    Rises a b c (L.foldl (fun l t => if (plOf a b c t m).ok a b c then putL lessP l (plOf a b c t m) else l) l) ∧
    ∀ x, x ∈ L.foldl (fun l t => if (plOf a b c t m).ok a b c then putL lessP l (plOf a b c t m) else l) l ↔ x ∈ l ∨ ∃ t ∈ L, (plOf a b c t m).ok a b c ∧ x = plOf a b c t m
  | [], l, h, hs => ⟨hs, fun x => by simp⟩
  | t :: L, l, h, hs => by
    rw [List.foldl_cons]
    by_cases hk : (plOf a b c t m).ok a b c
    · rw [if_pos hk]
      generalize hp : plOf a b c t m = p at *
      have hpx : p.x = ofX a b c m ∧ p.y = ofY a b c m ∧ p.z = ofZ a b c m := by rw [← hp]; exact ⟨rfl, rfl, rfl⟩
      have hall : ∀ x ∈ putL lessP l p, x.x = ofX a b c m ∧ x.y = ofY a b c m ∧ x.z = ofZ a b c m ∧ x.ok a b c := fun x hx => by
        rcases putL_mem.1 hx with rfl | hx
        · exact ⟨hpx.1, hpx.2.1, hpx.2.2, hk⟩
        · exact h x hx
      have hc : ∀ x ∈ p :: l, ∀ y ∈ p :: l, lessP x y = decide (Plc.cmp a b c x y < 0) := fun x hx y hy => by
        have h1 := hall x (putL_mem.2 (List.mem_cons.1 hx))
        have h2 := hall y (putL_mem.2 (List.mem_cons.1 hy))
        exact less_cmp (by rw [h1.1, h2.1]) (by rw [h1.2.1, h2.2.1]) (by rw [h1.2.2.1, h2.2.2.1])
      have hs2 : Rises a b c (putL lessP l p) := by
        have := putL_sorted (less := lessP) (p := p) (l := l) (hs.imp_of_mem fun {x y} hx hy hxy => by rw [hc x (by simp [hx]) y (by simp [hy])]; exact decide_eq_true hxy) (fun y hy hne => by
          rw [hc p (by simp) y (by simp [hy]), hc y (by simp [hy]) p (by simp), decide_eq_true_iff, decide_eq_true_iff]
          have hn := Plc.neg a b c p y
          unfold Neg at hn
          have : ¬Plc.cmp a b c p y = 0 := fun e => hne (Plc.zero hk (h y hy).2.2.2 e)
          omega) (fun x hx y hy z hz h1 h2 => by
          rw [hc x hx y hy, decide_eq_true_iff] at h1
          rw [hc y hy z hz, decide_eq_true_iff] at h2
          rw [hc x hx z hz, decide_eq_true_iff]
          have := Plc.tri a b c x y z
          unfold Tri3 at this
          omega)
        exact this.imp_of_mem fun {x y} hx hy hxy => by
          rw [hc x (List.mem_cons.2 (putL_mem.1 hx)) y (List.mem_cons.2 (putL_mem.1 hy))] at hxy
          exact of_decide_eq_true hxy
      obtain ⟨r1, r2⟩ := here_go L (putL lessP l p) hall hs2
      refine ⟨r1, fun x => ?_⟩
      rw [r2 x, putL_mem]
      constructor
      · rintro ((rfl | hx) | ⟨t', ht', h1, h2⟩)
        · exact .inr ⟨t, by simp, by rw [hp]; exact hk, hp.symm⟩
        · exact .inl hx
        · exact .inr ⟨t', by simp [ht'], h1, h2⟩
      · rintro (hx | ⟨t', ht', h1, h2⟩)
        · exact .inl (.inr hx)
        · rcases List.mem_cons.1 ht' with rfl | ht'
          · exact .inl (.inl (by rw [h2, hp]))
          · exact .inr ⟨t', ht', h1, h2⟩
    · rw [if_neg hk]
      obtain ⟨r1, r2⟩ := here_go L l h hs
      refine ⟨r1, fun x => ?_⟩
      rw [r2 x]
      constructor
      · rintro (hx | ⟨t', ht', h1, h2⟩)
        · exact .inl hx
        · exact .inr ⟨t', by simp [ht'], h1, h2⟩
      · rintro (hx | ⟨t', ht', h1, h2⟩)
        · exact .inl hx
        · rcases List.mem_cons.1 ht' with rfl | ht'
          · exact absurd h1 hk
          · exact .inr ⟨t', ht', h1, h2⟩
theorem here_mem {a b c m : Int} {L : List Wnt} {x : Plc} : x ∈ hereL a b c m L ↔ ∃ t ∈ L, (plOf a b c t m).ok a b c ∧ x = plOf a b c t m := by
  rw [hereL, (here_go L [] (by simp) .nil).2 x]
  simp
theorem here_rises (a b c m : Int) (L : List Wnt) : Rises a b c (hereL a b c m L) := (here_go L [] (by simp) .nil).1
theorem here_len (a b c m : Int) : ∀ (L : List Wnt) (l : List Plc), (L.foldl (fun l t => if (plOf a b c t m).ok a b c then putL lessP l (plOf a b c t m) else l) l).length ≤ l.length + L.length
  | [], l => by simp
  | t :: L, l => by
    rw [List.foldl_cons, List.length_cons]
    refine Nat.le_trans (here_len a b c m L _) ?_
    split
    · rw [putL_len]; split <;> omega
    · omega
theorem every_mem {a b c : Int} {L : List Wnt} {n : Nat} {x : Plc} : x ∈ everyL a b c L n ↔ ∃ i : Nat, i < n ∧ ∃ t ∈ L, (plOf a b c t i).ok a b c ∧ x = plOf a b c t i := by
  unfold everyL
  rw [List.mem_flatMap]
  constructor
  · rintro ⟨i, hi, h⟩
    exact ⟨i, List.mem_range.1 hi, here_mem.1 h⟩
  · rintro ⟨i, hi, h⟩
    exact ⟨i, List.mem_range.2 hi, here_mem.2 h⟩
theorem every_rises {a b c : Int} (hd : okD a b c) (L : List Wnt) : ∀ n : Nat, (n : Int) ≤ a * b * c → Rises a b c (everyL a b c L n)
  | 0, _ => by unfold everyL Rises; simp
  | n + 1, hn => by
    unfold everyL
    rw [List.range_succ, List.flatMap_append]
    unfold Rises
    rw [List.pairwise_append]
    refine ⟨every_rises hd L n (by omega), by have := here_rises a b c n L; unfold Rises at this; simpa using this, fun x hx y hy => ?_⟩
    obtain ⟨i, hi, t, _, _, rfl⟩ := every_mem.1 hx
    obtain ⟨t', _, _, rfl⟩ := here_mem.1 (by simpa using hy : y ∈ hereL a b c (n : Int) L)
    have e1 := (at_of (m := (i : Int)) ⟨hd, by omega, by omega⟩).1
    have e2 := (at_of (m := (n : Int)) ⟨hd, by omega, by omega⟩).1
    have hc : cmpV (atV a b c (plOf a b c t i).x (plOf a b c t i).y (plOf a b c t i).z) (atV a b c (plOf a b c t' n).x (plOf a b c t' n).y (plOf a b c t' n).z) < 0 := by
      show cmpV (atV a b c (ofX a b c i) (ofY a b c i) (ofZ a b c i)) (atV a b c (ofX a b c n) (ofY a b c n) (ofZ a b c n)) < 0
      rw [e1, e2, cmpV_lt (by omega)]
      omega
    rw [Plc.cmp_eq, orV_1 (by omega)]
    exact hc
theorem every_whole {a b c : Int} (hd : okD a b c) {w : Wnt} {L : List Wnt} (hL : ∀ x, x ∈ L ↔ x ∈ w.turns) : everyL a b c L (a * b * c).toNat = wholeL a b c w := by
  have hmu := okD_mul hd
  refine (every_rises hd L _ (by omega)).ext (whole_rises a b c w) fun x => ?_
  rw [every_mem, whole_mem, rawL, List.mem_flatMap]
  constructor
  · rintro ⟨i, hi, t, ht, h1, rfl⟩
    refine ⟨t, (hL t).1 ht, ?_⟩
    refine upto_mem (i := (i : Int)) (by omega) (by omega) ?_
    unfold plAt
    rw [if_pos h1]
    simp
  · rintro ⟨t, ht, hx⟩
    obtain ⟨i, h1, h2, h⟩ := mem_upto hx
    unfold plAt at h
    split at h
    · rename_i hk
      rw [List.mem_singleton] at h
      refine ⟨i.toNat, by omega, t, (hL t).2 ht, ?_⟩
      rw [show ((i.toNat : Nat) : Int) = i by omega]
      exact ⟨hk, h⟩
    · simp at h
end Go.Ab.Pd

set_option linter.unusedSimpArgs false
set_option linter.unusedVariables false
namespace Go.Ab.Pd
open Go.Proofs
def typV (t : Wnt) : Plc := ⟨0, 0, 0, t.p, t.q, t.r, torV t.s t.p, torV t.t t.q, torV t.u t.r⟩
def fitB (a b c : Int) (x : Plc) : Bool := decide (okB a b c 0 0 0 x.p x.q x.r)
def bas (n s : Int) : List Int := if s < n then (List.range n.toNat).map Int.ofNat else [0]
def basesL (a b c : Int) (x : Plc) : List Plc := (bas a x.p).flatMap fun i => (bas b x.q).flatMap fun j => (bas c x.r).map fun k => ⟨i, j, k, x.p, x.q, x.r, x.s, x.t, x.u⟩
def lenB (n s : Int) : Int := if s < n then n else 1
theorem bas_len {n s : Int} (h : 1 ≤ n) : ((bas n s).length : Int) = lenB n s := by
  unfold bas lenB
  split
  · simp; omega
  · rfl
theorem bas_mem {n s x : Int} (h : 1 ≤ n) (hs : s ≤ n) : x ∈ bas n s ↔ (0 ≤ x ∧ x < n) ∧ (s = n → x = 0) := by
  unfold bas
  split
  · rw [List.mem_map]
    constructor
    · rintro ⟨i, hi, rfl⟩
      have := List.mem_range.1 hi
      exact ⟨⟨by simp, by simp; omega⟩, by omega⟩
    · rintro ⟨h1, h2⟩
      exact ⟨x.toNat, List.mem_range.2 (by omega), by simp; omega⟩
  · rw [List.mem_singleton]
    constructor
    · rintro rfl
      exact ⟨by omega, fun _ => rfl⟩
    · rintro ⟨_, h2⟩
      exact h2 (by omega)
theorem bas_nodup (n s : Int) : (bas n s).Nodup := by
  unfold bas
  split
  · unfold List.Nodup
    rw [List.pairwise_map]
    exact List.nodup_range.imp fun {x y} h e => h (Int.ofNat.inj e)
  · simp
theorem flat_len {α β : Type} {f : α → List β} {k : Nat} : ∀ {l : List α}, (∀ x ∈ l, (f x).length = k) → (l.flatMap f).length = l.length * k
  | [], _ => by simp
  | x :: l, h => by
    rw [List.flatMap_cons, List.length_append, h x (by simp), flat_len fun y hy => h y (by simp [hy]), List.length_cons, Nat.add_mul]
    omega
theorem basesL_len {a b c : Int} (hd : okD a b c) (x : Plc) : ((basesL a b c x).length : Int) = lenB a x.p * lenB b x.q * lenB c x.r := by
  unfold okD at hd
  unfold basesL
  rw [flat_len (k := (bas b x.q).length * (bas c x.r).length) fun i _ => by rw [flat_len (k := (bas c x.r).length) fun j _ => by simp], ← bas_len (n := a) (by omega), ← bas_len (n := b) (by omega), ← bas_len (n := c) (by omega)]
  rw [Int.natCast_mul, Int.natCast_mul, Int.mul_assoc]
theorem basesL_mem {a b c : Int} {x y : Plc} : y ∈ basesL a b c x ↔ y.x ∈ bas a x.p ∧ y.y ∈ bas b x.q ∧ y.z ∈ bas c x.r ∧ y = ⟨y.x, y.y, y.z, x.p, x.q, x.r, x.s, x.t, x.u⟩ := by
  unfold basesL
  rw [List.mem_flatMap]
  constructor
  · rintro ⟨i, hi, h⟩
    obtain ⟨j, hj, h⟩ := List.mem_flatMap.1 h
    obtain ⟨k, hk, rfl⟩ := List.mem_map.1 h
    exact ⟨hi, hj, hk, rfl⟩
  · rintro ⟨h1, h2, h3, h4⟩
    exact ⟨_, h1, List.mem_flatMap.2 ⟨_, h2, List.mem_map.2 ⟨_, h3, h4.symm⟩⟩⟩
theorem basesL_nodup (a b c : Int) (x : Plc) : (basesL a b c x).Nodup := by
  unfold basesL List.Nodup
  rw [List.pairwise_flatMap]
  refine ⟨fun i _ => ?_, (bas_nodup a x.p).imp fun {i i'} h y hy z hz e => ?_⟩
  · rw [List.pairwise_flatMap]
    refine ⟨fun j _ => ?_, (bas_nodup b x.q).imp fun {j j'} h y hy z hz e => ?_⟩
    · rw [List.pairwise_map]
      exact (bas_nodup c x.r).imp fun {k k'} h e => h (Plc.mk.inj e).2.2.1
    · obtain ⟨k, _, rfl⟩ := List.mem_map.1 hy
      obtain ⟨k', _, rfl⟩ := List.mem_map.1 hz
      exact h (Plc.mk.inj e).2.1
  · obtain ⟨j, _, hy⟩ := List.mem_flatMap.1 hy
    obtain ⟨j', _, hz⟩ := List.mem_flatMap.1 hz
    obtain ⟨k, _, rfl⟩ := List.mem_map.1 hy
    obtain ⟨k', _, rfl⟩ := List.mem_map.1 hz
    exact h (Plc.mk.inj e).1
def numL (a b c : Int) (S : List Plc) : List Plc := (S.filter (fitB a b c)).flatMap (basesL a b c)
def numR (a b c : Int) (S : List Plc) : Int := ((numL a b c S).length : Int)
theorem num_perm {a b c : Int} {S T : List Plc} (h : S.Perm T) : numR a b c S = numR a b c T := by
  unfold numR numL
  rw [(h.filter _).flatMap_right _ |>.length_eq]
theorem num_cons {a b c : Int} (hd : okD a b c) (x : Plc) (S : List Plc) : numR a b c (x :: S) = numR a b c S + if fitB a b c x = true then lenB a x.p * lenB b x.q * lenB c x.r else 0 := by
  unfold numR numL
  rw [List.filter_cons]
  split
  · rw [List.flatMap_cons, List.length_append, Int.natCast_add, basesL_len hd, Int.add_comm]
  · rw [Int.add_zero]
theorem num_put {a b c : Int} (hd : okD a b c) (S : List Plc) (x : Plc) : numR a b c (putL lessP S x) = numR a b c S + if fitB a b c x = true ∧ S.length < (putL lessP S x).length then lenB a x.p * lenB b x.q * lenB c x.r else 0 := by
  rw [putL_len]
  unfold putL
  by_cases h : x ∈ S
  · rw [if_pos h, if_pos h, if_neg (by omega), Int.add_zero]
  · rw [if_neg h, if_neg h, num_perm (outL_perm lessP x S), num_cons hd]
    by_cases hf : fitB a b c x = true
    · rw [if_pos hf, if_pos ⟨hf, by omega⟩]
    · rw [if_neg hf, if_neg (fun h => hf h.1)]
theorem lenB_le {n s : Int} (h : 1 ≤ n ∧ n ≤ 16) : 1 ≤ lenB n s ∧ lenB n s ≤ 16 := by unfold lenB; split <;> omega
theorem num_le {a b c : Int} (hd : okD a b c) : ∀ S : List Plc, 0 ≤ numR a b c S ∧ numR a b c S ≤ 4096 * S.length
  | [] => by unfold numR numL; simp
  | x :: S => by
    have h := num_le hd S
    rw [num_cons hd, List.length_cons]
    unfold okD at hd
    have h1 := lenB_le (s := x.p) hd.1
    have h2 := lenB_le (s := x.q) hd.2.1
    have h3 := lenB_le (s := x.r) hd.2.2
    have m1 : 0 ≤ lenB a x.p * lenB b x.q := Int.mul_nonneg (by omega) (by omega)
    have m2 : lenB a x.p * lenB b x.q ≤ 16 * 16 := Int.mul_le_mul h1.2 h2.2 (by omega) (by omega)
    have m3 : 0 ≤ lenB a x.p * lenB b x.q * lenB c x.r := Int.mul_nonneg m1 (by omega)
    have m4 : lenB a x.p * lenB b x.q * lenB c x.r ≤ 16 * 16 * 16 := Int.mul_le_mul m2 h3.2 (by omega) (by omega)
    split <;> omega
def seenL (L : List Wnt) : List Plc := L.foldl (fun S t => putL lessP S (typV t)) []
theorem seen_go : ∀ (L : List Wnt) (S : List Plc), S.Nodup → (L.foldl (fun S t => putL lessP S (typV t)) S).Nodup ∧ (∀ x, x ∈ L.foldl (fun S t => putL lessP S (typV t)) S ↔ x ∈ S ∨ ∃ t ∈ L, x = typV t)
  | [], S, h => ⟨h, fun x => by simp⟩
  | t :: L, S, h => by
    obtain ⟨h1, h2⟩ := seen_go L (putL lessP S (typV t)) (putL_nodup h)
    refine ⟨h1, fun x => ?_⟩
    rw [List.foldl_cons, h2 x, putL_mem]
    constructor
    · rintro ((rfl | h) | ⟨t', h3, h4⟩)
      · exact .inr ⟨t, by simp, rfl⟩
      · exact .inl h
      · exact .inr ⟨t', by simp [h3], h4⟩
    · rintro (h | ⟨t', h3, h4⟩)
      · exact .inl (.inr h)
      · rcases List.mem_cons.1 h3 with rfl | h3
        · exact .inl (.inl h4)
        · exact .inr ⟨t', h3, h4⟩
theorem seen_mem {L : List Wnt} {x : Plc} : x ∈ seenL L ↔ ∃ t ∈ L, x = typV t := by
  rw [seenL, (seen_go L [] (by simp)).2 x]
  simp
theorem seen_nodup (L : List Wnt) : (seenL L).Nodup := (seen_go L [] (by simp)).1
theorem numL_nodup {a b c : Int} {S : List Plc} (h : S.Nodup) (h0 : ∀ x ∈ S, x.x = 0 ∧ x.y = 0 ∧ x.z = 0) : (numL a b c S).Nodup := by
  unfold numL List.Nodup
  rw [List.pairwise_flatMap]
  refine ⟨fun x _ => basesL_nodup a b c x, ?_⟩
  refine (List.Pairwise.filter _ h).imp_of_mem fun {x y} hx hy hne z hz z' hz' e => hne ?_
  subst e
  have e1 := (basesL_mem.1 hz).2.2.2
  have e2 := (basesL_mem.1 hz').2.2.2
  obtain ⟨x1, x2, x3⟩ := h0 x (List.mem_filter.1 hx).1
  obtain ⟨y1, y2, y3⟩ := h0 y (List.mem_filter.1 hy).1
  obtain ⟨_, _, _, q1, q2, q3, q4, q5, q6⟩ := Plc.mk.inj (e1.symm.trans e2)
  obtain ⟨_, _, _, _, _, _, _, _, _⟩ := x
  obtain ⟨_, _, _, _, _, _, _, _, _⟩ := y
  simp only at *
  subst x1 x2 x3 y1 y2 y3 q1 q2 q3 q4 q5 q6
  rfl
theorem torV_1 {s : Bool} {p : Int} (h : torV s p = true) : ¬p = 1 := by
  simp only [torV, Bool.and_eq_true, decide_eq_true_eq] at h
  omega
theorem num_whole {a b c : Int} (hd : okD a b c) {w : Wnt} {L : List Wnt} (hL : ∀ x, x ∈ L ↔ x ∈ w.turns) : numR a b c (seenL L) = ((wholeL a b c w).length : Int) := by
  have hp : (numL a b c (seenL L)).Perm (wholeL a b c w) := by
    refine (List.perm_ext_iff_of_nodup (numL_nodup (seen_nodup L) fun x hx => ?_) (whole_rises a b c w).nodup).2 fun x => ?_
    · obtain ⟨t, _, rfl⟩ := seen_mem.1 hx
      exact ⟨rfl, rfl, rfl⟩
    · rw [wholeL_mem hd, numL, List.mem_flatMap, List.any_eq_true]
      constructor
      · rintro ⟨τ, hτ, hx⟩
        obtain ⟨hs, hf⟩ := List.mem_filter.1 hτ
        obtain ⟨t, ht, rfl⟩ := seen_mem.1 hs
        have hf : okB a b c 0 0 0 t.p t.q t.r := of_decide_eq_true hf
        obtain ⟨b1, b2, b3, e⟩ := basesL_mem.1 hx
        have hd' := hd
        unfold okD at hd'
        unfold okB ok1 at hf
        have b1 := (bas_mem (by omega) (by show t.p ≤ a; omega)).1 b1
        have b2 := (bas_mem (by omega) (by show t.q ≤ b; omega)).1 b2
        have b3 := (bas_mem (by omega) (by show t.r ≤ c; omega)).1 b3
        generalize x.x = i at *
        generalize x.y = j at *
        generalize x.z = k at *
        rw [e]
        refine ⟨⟨hd, ?_, fun h => torV_1 h, fun h => torV_1 h, fun h => torV_1 h, b1.2, b2.2, b3.2⟩, t, (hL t).1 ht, decide_eq_true ⟨⟨rfl, rfl, rfl⟩, rfl, rfl, rfl⟩⟩
        unfold okB ok1
        simp only [typV] at *
        omega
      · rintro ⟨h1, t, ht, h2⟩
        have h2 := of_decide_eq_true h2
        obtain ⟨⟨e1, e2, e3⟩, e4, e5, e6⟩ := h2
        have hb := h1.2.1
        obtain ⟨_, _, _, _, _, o1, o2, o3⟩ := h1
        unfold okB ok1 at hb
        have hd' := hd
        unfold okD at hd'
        refine ⟨typV t, List.mem_filter.2 ⟨seen_mem.2 ⟨t, (hL t).2 ht, rfl⟩, decide_eq_true ?_⟩, basesL_mem.2 ⟨?_, ?_, ?_, ?_⟩⟩
        · unfold okB ok1
          simp only [typV]
          omega
        · exact (bas_mem (by omega) (by simp only [typV]; omega)).2 ⟨by omega, fun h => o1 (by rw [← e1]; exact h)⟩
        · exact (bas_mem (by omega) (by simp only [typV]; omega)).2 ⟨by omega, fun h => o2 (by rw [← e2]; exact h)⟩
        · exact (bas_mem (by omega) (by simp only [typV]; omega)).2 ⟨by omega, fun h => o3 (by rw [← e3]; exact h)⟩
        · simp only [typV, e1, e2, e3]
          rw [← e1, ← e2, ← e3, e4, e5, e6, e1, e2, e3]
  unfold numR
  rw [hp.length_eq]
end Go.Ab.Pd

set_option linter.unusedSimpArgs false
set_option linter.unusedVariables false
namespace Go.Ab.Pd
open Go.Proofs
theorem bit_val {w : Int} (h : inU w) {j : Nat} (hj : j < 64) : decide (IntKind.u64.wrap ((BitVec.ofInt IntKind.u64.bits (w.fdiv (2 ^ min j IntKind.u64.bits)) &&& BitVec.ofInt IntKind.u64.bits 1).toNat : Int) = 1) = w.toNat.testBit j := by
  obtain ⟨x, rfl⟩ : ∃ x : Nat, w = (x : Int) := ⟨w.toNat, by unfold inU at h; omega⟩
  have hx : x < 2 ^ 64 := by unfold inU at h; omega
  have hle : x / 2 ^ j ≤ x := Nat.div_le_self _ _
  have a1 := andW_nat (x := ((x / 2 ^ j : Nat) : Int)) (y := 1) (nU (by omega)) ⟨by decide, by decide⟩
  unfold andW at a1
  rw [show min j IntKind.u64.bits = j from Nat.min_eq_left (by rw [show IntKind.u64.bits = 64 from rfl]; omega), show (2 : Int) ^ j = ((2 ^ j : Nat) : Int) by rw [Int.natCast_pow]; rfl, fdiv_nat, a1, Int.toNat_natCast, Int.toNat_natCast, Nat.testBit_eq_decide_div_mod_eq, show (1 : Int).toNat = 1 from rfl, Nat.and_one_is_mod]
  exact decide_eq_decide.2 (by omega)
def addW (w k : Int) : Int := IntKind.u64.wrap (w + IntKind.u64.wrap (1 * 2 ^ (min (k.tmod 64).toNat IntKind.u64.bits)))
theorem nat_add_or {x j : Nat} (hx : x < 2 ^ 64) (hj : j < 64) (h : x.testBit j = false) : x + 2 ^ j = x ||| 2 ^ j := by
  have hp : 2 ^ j < 2 ^ 64 := Nat.pow_lt_pow_right (by decide) hj
  have h0 : BitVec.ofNat 65 x &&& BitVec.ofNat 65 (2 ^ j) = 0#65 := by
    apply BitVec.eq_of_toNat_eq
    rw [BitVec.toNat_and, BitVec.toNat_ofNat, BitVec.toNat_ofNat, Nat.mod_eq_of_lt (by omega), Nat.mod_eq_of_lt (by omega)]
    refine Nat.eq_of_testBit_eq fun i => ?_
    rw [Nat.testBit_and, Nat.testBit_two_pow]
    by_cases hi : j = i
    · subst hi; simp [h]
    · simp [hi]
  have h1 := congrArg BitVec.toNat (BitVec.add_eq_or_of_and_eq_zero _ _ h0)
  rw [BitVec.toNat_add, BitVec.toNat_or, BitVec.toNat_ofNat, BitVec.toNat_ofNat, Nat.mod_eq_of_lt (by omega : x < 2 ^ 65), Nat.mod_eq_of_lt (by omega : 2 ^ j < 2 ^ 65), Nat.mod_eq_of_lt (by omega)] at h1
  exact h1
theorem addW_or {w k : Int} (hw : inU w) (hk : 0 ≤ k) (h : w.toNat.testBit (k % 64).toNat = false) : addW w k = orW w k := by
  have hj : (k % 64).toNat < 64 := by omega
  have hp : 2 ^ (k % 64).toNat < 2 ^ 64 := Nat.pow_lt_pow_right (by decide) hj
  have hpi : inU (((2 ^ (k % 64).toNat : Nat)) : Int) := nU hp
  rw [orW_nat hw hk, ← nat_add_or (lt_U hw) hj h]
  have hb : w.toNat + 2 ^ (k % 64).toNat < 2 ^ 64 := by
    rw [nat_add_or (lt_U hw) hj h]
    exact Nat.or_lt_two_pow (lt_U hw) hp
  have hm : k.tmod 64 = k % 64 := Int.tmod_eq_emod_of_nonneg hk
  unfold addW
  rw [hm, show min (k % 64).toNat IntKind.u64.bits = (k % 64).toNat from Nat.min_eq_left (by rw [show IntKind.u64.bits = 64 from rfl]; omega), Int.one_mul, show ((2 : Int) ^ (k % 64).toNat) = ((2 ^ (k % 64).toNat : Nat) : Int) by rw [Int.natCast_pow]; rfl, wrapU hpi]
  have e : w + ((2 ^ (k % 64).toNat : Nat) : Int) = ((w.toNat + 2 ^ (k % 64).toNat : Nat) : Int) := by unfold inU at hw; omega
  rw [e]
  exact wrapU (nU hb)
theorem orW_same {w k : Int} (hw : inU w) (hk : 0 ≤ k) (h : w.toNat.testBit (k % 64).toNat = true) : orW w k = w := by
  rw [orW_nat hw hk]
  have : w.toNat ||| 2 ^ (k % 64).toNat = w.toNat := Nat.eq_of_testBit_eq fun i => by
    rw [Nat.testBit_or, Nat.testBit_two_pow]
    by_cases hi : (k % 64).toNat = i
    · subst hi; simp [h]
    · simp [hi]
  rw [this]
  unfold inU at hw
  omega
theorem from_same {ws : List Int} (hw : ∀ w ∈ ws, inU w) {k : Int} (hk : 0 ≤ k) (hl : k.toNat / 64 < ws.length) (h : bitAt ws k.toNat = true) : setW ws k = ws := by
  have hi : (k.tdiv 64).toNat = k.toNat / 64 := by rw [Int.tdiv_eq_ediv_of_nonneg hk]; omega
  unfold bitAt at h
  unfold setW
  rw [hi, orW_same (getD_inU hw _) hk (by rw [show (k % 64).toNat = k.toNat % 64 by omega]; exact h)]
  refine List.ext_getElem (by simp) fun i h1 h2 => ?_
  rw [List.getElem_set]
  split
  · rename_i e
    subst e
    simp [List.getD, hl]
  · rfl
theorem from_add {ws : List Int} (hw : ∀ w ∈ ws, inU w) {k : Int} (hk : 0 ≤ k) (h : bitAt ws k.toNat = false) : setW ws k = ws.set (k.tdiv 64).toNat (addW (ws.getD (k.tdiv 64).toNat 0) k) := by
  have hi : (k.tdiv 64).toNat = k.toNat / 64 := by rw [Int.tdiv_eq_ediv_of_nonneg hk]; omega
  unfold bitAt at h
  unfold setW
  rw [addW_or (getD_inU hw _) hk (by rw [hi, show (k % 64).toNat = k.toNat % 64 by omega]; exact h)]
def allB (ws : List Int) (n : Nat) : List Int := ((List.range n).map Int.ofNat).filter fun k => bitAt ws k.toNat
theorem allB_mem {ws : List Int} {n : Nat} {k : Int} : k ∈ allB ws n ↔ (0 ≤ k ∧ k < n) ∧ bitAt ws k.toNat = true := by
  unfold allB
  rw [List.mem_filter, List.mem_map]
  constructor
  · rintro ⟨⟨i, hi, rfl⟩, h⟩
    have := List.mem_range.1 hi
    exact ⟨⟨by simp, by simp; omega⟩, h⟩
  · rintro ⟨h1, h2⟩
    exact ⟨⟨k.toNat, List.mem_range.2 (by omega), by simp; omega⟩, h2⟩
def meetB (xs ys : List Int) : Bool := (allB xs (64 * xs.length)).any fun k => bitAt ys k.toNat
theorem meetB_ofL {n : Int} (hn : 1 ≤ n ∧ n ≤ 12288) {l : List Int} (hl : ∀ k ∈ l, 0 ≤ k ∧ k < n) (ys : List Int) : meetB (ofL n l) ys = l.any fun k => bitAt ys k.toNat := by
  unfold meetB
  rw [Bool.eq_iff_iff, List.any_eq_true, List.any_eq_true]
  have hlen := ofL_length n l
  have hwv : wordsV n = (n + 63) / 64 := by rw [wordsV, if_pos hn]
  constructor
  · rintro ⟨k, hk, h⟩
    obtain ⟨h1, h2⟩ := allB_mem.1 hk
    rw [ofL_bit hn hl, decide_eq_true_eq, show ((k.toNat : Nat) : Int) = k by omega] at h2
    exact ⟨k, h2, h⟩
  · rintro ⟨k, hk, h⟩
    have := hl k hk
    refine ⟨k, allB_mem.2 ⟨⟨this.1, by omega⟩, ?_⟩, h⟩
    rw [ofL_bit hn hl, decide_eq_true_eq, show ((k.toNat : Nat) : Int) = k by omega]
    exact hk
theorem hold_ref {a b c : Int} (xs ys : List Int) {x : Plc} (hk : x.ok a b c) :
    (!meetB (ofL (manyV a b c) (boxL a b c x.x x.y x.z x.p x.q x.r)) xs && !meetB (ofL (3 * manyV a b c) (cabL a b c x.x x.y x.z x.p x.q x.r x.s x.t x.u)) ys) = holdV a b c xs ys x := by
  have hd := hk.1
  have hb := hk.2.1
  have hmu := okD_mul hd
  have hmv : manyV a b c = a * b * c := by rw [manyV, if_pos hd]
  have h1 : 1 ≤ a * b * c := by
    unfold okD at hd
    have := Int.mul_pos (Int.mul_pos (show 0 < a by omega) (show 0 < b by omega)) (show 0 < c by omega)
    omega
  rw [meetB_ofL (by omega) (fun k hk => by rw [hmv]; exact (nodes_mem hd hb ((boxL_mem hd hb).1 hk)).2), meetB_ofL (by omega) (fun k hk => by rw [hmv]; exact links_mem hd hb k ((cabL_mem hd hb k).1 hk))]
  unfold holdV
  rw [Bool.eq_iff_iff]
  simp only [Bool.and_eq_true, Bool.not_eq_true', List.all_eq_true, List.any_eq_false, Bool.not_eq_true]
  constructor
  · rintro ⟨h1, h2⟩
    exact ⟨fun k hk => h1 k ((boxL_mem hd hb).2 hk), fun k hk => h2 k ((cabL_mem hd hb k).2 hk)⟩
  · rintro ⟨h1, h2⟩
    exact ⟨fun k hk => h1 k ((boxL_mem hd hb).1 hk), fun k hk => h2 k ((cabL_mem hd hb k).1 hk)⟩
end Go.Ab.Pd

set_option linter.unusedSimpArgs false
set_option linter.unusedVariables false
namespace Go.Ab.Pd
open Go.Proofs
def smallV (a b c : Int) : Bool := if okD a b c then decide (IntKind.i64.wrap (IntKind.i64.wrap (a * b) * c) ≤ 64) else true
theorem e6 : Ent Tryz.prog 6 Tryz.f6 [] 1 := ⟨Tryz.func6, rfl, by decide, by kernel_rfl, by kernel_rfl, by decide, by kernel_rfl⟩
attribute [push_cast] Tryz.f6
set_option maxHeartbeats 4000000 in
set_option maxRecDepth 400000 in
theorem small_pur (a b c : Int) : Pur Tryz.prog GG 6 [.agg [I a, I b, I c]] (B (smallV a b c)) := by
  refine goQ e6 TOk.nil 5 ?_
  simp (maxSteps := 2000000) only [push_cast, seval, ↓kw2]
  unfold smallV
  repeat' (first | apply And.intro | intro _)
  all_goals
    refine ⟨_, rfl, done_pur rfl ?_⟩
    simp only [AV.c.injEq, Value.bool.injEq]
    first | (rw [if_neg (by unfold okD; omega)]) | (rw [if_pos (by unfold okD; omega)])
end Go.Ab.Pd

set_option linter.unusedSimpArgs false
set_option linter.unusedVariables false
namespace Go.Ab.Pd
open Go.Proofs
theorem IsSet.len {s : AV} (q : IsSet s) : ∃ L : Int, aLen Tryz.prog 28 s = some L := by
  obtain ⟨ws, _, rfl | ⟨rfl, _⟩⟩ := q
  · exact ⟨_, li28 _⟩
  · exact ⟨_, ln28⟩
theorem toVP {f : FuncId} {args : List AV} {v : AV} (h : Pur Tryz.prog GG f args v) : PurV Tryz.prog GG (.fn f [] []) args v := Pur.toV (by simpa using h)
end Go.Ab.Pd

set_option linter.unusedSimpArgs false
set_option linter.unusedVariables false
namespace Go.Ab.Pd
open Go.Proofs
theorem e91 : Ent Tryz.prog 91 Tryz.f91 [] 1 := ⟨Tryz.func91, rfl, by decide, by kernel_rfl, by kernel_rfl, by decide, by kernel_rfl⟩
attribute [push_cast] Tryz.f91
set_option maxHeartbeats 4000000 in
set_option maxRecDepth 400000 in
theorem may01 (a b c : Int) : Pur Tryz.prog GG 91 [.agg [I a, I b, I c]] (B (decide (okD a b c))) := by
  refine goQ e91 TOk.nil 5 ?_
  simp (maxSteps := 2000000) only [push_cast, seval, ↓kw2]
  repeat' (first | apply And.intro | intro _)
  all_goals
    refine ⟨_, rfl, done_pur rfl ?_⟩
    simp only [AV.c.injEq, Value.bool.injEq]
    first | exact (decide_eq_true (by unfold okD; omega)).symm | exact (decide_eq_false (by unfold okD; omega)).symm
@[push_cast] def g91 : List AV → Option (Prop × AV)
  | [.agg [(.c (.int .i64 a)), (.c (.int .i64 b)), (.c (.int .i64 c))]] => some (True, B (decide (okD a b c)))
  | _ => none
theorem g91_ok : ∀ args p, g91 args = some p → p.1 → Pur Tryz.prog GG 91 args p.2 := by
  intro args p hp hc
  unfold g91 at hp
  split at hp
  · cases hp
    exact may01 _ _ _
  · cases hp
@[push_cast] def Q1 : Tab := Tab.ext Tab.nil 91 g91
theorem Q1_ok : TOk Tryz.prog GG Q1 := TOk.ext TOk.nil g91_ok
theorem e35 : Ent Tryz.prog 35 Tryz.f35 [] 1 := ⟨Tryz.func35, rfl, by decide, by kernel_rfl, by kernel_rfl, by decide, by kernel_rfl⟩
attribute [push_cast] Tryz.f35
set_option maxHeartbeats 4000000 in
set_option maxRecDepth 400000 in
theorem n01 (a b c : Int) (hp : okD a b c) : Pur Tryz.prog GG 35 [.agg [I a, I b, I c]] (I (a * b * c)) := by
  refine goQ e35 Q1_ok 0 ?_
  simp (maxSteps := 2000000) only [push_cast, seval, ↓kw2]
  have hm := okD_mul hp
  exact ⟨_, rfl, done_pur rfl (by rw [wrapL (n := a * b) (by omega) (by omega), wrapL (by omega) (by omega)])⟩
@[push_cast] def g35 : List AV → Option (Prop × AV)
  | [.agg [(.c (.int .i64 a)), (.c (.int .i64 b)), (.c (.int .i64 c))]] => some (okD a b c, I (a * b * c))
  | _ => none
theorem g35_ok : ∀ args p, g35 args = some p → p.1 → Pur Tryz.prog GG 35 args p.2 := by
  intro args p hp hc
  unfold g35 at hp
  split at hp
  · cases hp
    exact n01 _ _ _ hc
  · cases hp
@[push_cast] def Q2 : Tab := Tab.ext Q1 35 g35
theorem Q2_ok : TOk Tryz.prog GG Q2 := TOk.ext Q1_ok g35_ok
theorem ofZ_is {a b c m : Int} (h : inM a b c m) : ofZ a b c m = m / a / b := by
  rw [ofZ, if_pos h]
  have hd := h.1
  unfold okD at hd
  have e3 : m / (a * b) = m / a / b := (Int.ediv_ediv_of_nonneg (by omega)).symm
  have e4 : m / a / b < c := by
    have hm := h.2.2
    have hmul : a * b * c = a * (b * c) := Int.mul_assoc _ _ _
    have s1 : m / a < b * c := Int.ediv_lt_of_lt_mul (by omega) (by rw [Int.mul_comm, ← hmul]; exact hm)
    exact Int.ediv_lt_of_lt_mul (by omega) (by rw [Int.mul_comm]; exact s1)
  have e5 : 0 ≤ m / a / b := Int.ediv_nonneg (Int.ediv_nonneg h.2.1 (by omega)) (by omega)
  rw [e3, Int.emod_eq_of_lt e5 e4]
theorem e149 : Ent Tryz.prog 149 Tryz.f149 [] 2 := ⟨Tryz.func149, rfl, by decide, by kernel_rfl, by kernel_rfl, by decide, by kernel_rfl⟩
attribute [push_cast] Tryz.f149
set_option maxHeartbeats 4000000 in
set_option maxRecDepth 400000 in
theorem where01 (a b c m : Int) (hp : inM a b c m) : Pur Tryz.prog GG 149 [.agg [I a, I b, I c], I m] (.agg [I (ofX a b c m), I (ofY a b c m), I (ofZ a b c m)]) := by
  refine goQ e149 Q2_ok 0 ?_
  simp (maxSteps := 2000000) only [push_cast, seval, ↓kw2]
  have hd := hp.1
  have hmu := okD_mul hp.1
  have h0 := hp.2
  unfold okD at hd
  have q0 : m.tdiv a = m / a := Int.tdiv_eq_ediv_of_nonneg (by omega)
  have q1 : 0 ≤ m / a := Int.ediv_nonneg (by omega) (by omega)
  have q2 : m / a ≤ m := Int.ediv_le_self _ (by omega)
  have q3 : (m / a).tdiv b = m / a / b := Int.tdiv_eq_ediv_of_nonneg q1
  have q4 : 0 ≤ m / a / b := Int.ediv_nonneg q1 (by omega)
  have q5 : m / a / b ≤ m / a := Int.ediv_le_self _ q1
  repeat' (first | apply And.intro | (intro _))
  all_goals first
    | omega
    | skip
  refine ⟨_, rfl, done_pur rfl ?_⟩
  rw [q0, wrapL (n := m / a) (by omega) (by omega), q3, wrapL (n := m / a / b) (by omega) (by omega), ofZ_is hp, ofX, if_pos hp, ofY, if_pos hp, Int.tmod_eq_emod_of_nonneg (by omega), Int.tmod_eq_emod_of_nonneg q1]
@[push_cast] def g149 : List AV → Option (Prop × AV)
  | [.agg [(.c (.int .i64 a)), (.c (.int .i64 b)), (.c (.int .i64 c))], (.c (.int .i64 m))] => some (inM a b c m, .agg [I (ofX a b c m), I (ofY a b c m), I (ofZ a b c m)])
  | _ => none
theorem g149_ok : ∀ args p, g149 args = some p → p.1 → Pur Tryz.prog GG 149 args p.2 := by
  intro args p hp hc
  unfold g149 at hp
  split at hp
  · cases hp
    exact where01 _ _ _ _ hc
  · cases hp
@[push_cast] def Q3 : Tab := Tab.ext Q2 149 g149
theorem Q3_ok : TOk Tryz.prog GG Q3 := TOk.ext Q2_ok g149_ok
theorem e300 : Ent Tryz.prog 300 Tryz.f300 [] 2 := ⟨Tryz.func300, rfl, by decide, by kernel_rfl, by kernel_rfl, by decide, by kernel_rfl⟩
attribute [push_cast] Tryz.f300
set_option maxHeartbeats 4000000 in
set_option maxRecDepth 400000 in
theorem num01 (a b c x y z : Int) (hp : okD a b c ∧ okP a b c x y z) : Pur Tryz.prog GG 300 [.agg [I a, I b, I c], .agg [I x, I y, I z]] (I (atV a b c x y z)) := by
  refine goQ e300 Q3_ok 0 ?_
  simp (maxSteps := 2000000) only [push_cast, seval, ↓kw2]
  have hmu := okD_mul hp.1
  obtain ⟨_, r1, r2⟩ := at_range hp.1 hp.2
  rw [atV, if_pos hp] at r1 r2 ⊢
  have hd := hp.1
  have hq := hp.2
  unfold okD at hd
  unfold okP at hq
  have e0 : b * z ≤ 16 * 16 := Int.mul_le_mul (by omega) (by omega) (by omega) (by omega)
  have e1 : 0 ≤ b * z := Int.mul_nonneg (by omega) (by omega)
  have e2 : x + a * (y + b * z) = x + a * y + a * b * z := by rw [Int.mul_add, ← Int.mul_assoc]; omega
  have e3 : a * (y + b * z) = (x + a * y + a * b * z) - x := by omega
  refine ⟨_, rfl, done_pur rfl ?_⟩
  rw [wrapL (n := b * z) (by omega) (by omega), wrapL (n := y + b * z) (by omega) (by omega), wrapL (n := a * (y + b * z)) (by omega) (by omega), wrapL (by omega) (by omega), e2]
@[push_cast] def g300 : List AV → Option (Prop × AV)
  | [.agg [(.c (.int .i64 a)), (.c (.int .i64 b)), (.c (.int .i64 c))], .agg [(.c (.int .i64 x)), (.c (.int .i64 y)), (.c (.int .i64 z))]] => some (okD a b c ∧ okP a b c x y z, I (atV a b c x y z))
  | _ => none
theorem g300_ok : ∀ args p, g300 args = some p → p.1 → Pur Tryz.prog GG 300 args p.2 := by
  intro args p hp hc
  unfold g300 at hp
  split at hp
  · cases hp
    exact num01 _ _ _ _ _ _ hc
  · cases hp
@[push_cast] def Q4 : Tab := Tab.ext Q3 300 g300
theorem Q4_ok : TOk Tryz.prog GG Q4 := TOk.ext Q3_ok g300_ok
theorem tmod_cases (n m : Int) (hm : 0 < m) : n.tmod m = n % m ∨ n.tmod m + m = n % m := by
  have h1 := Int.tmod_lt_of_pos n hm
  have h2 := Int.lt_tmod_of_pos n hm
  have h3 := Int.emod_nonneg n (show m ≠ 0 by omega)
  have h4 := Int.emod_lt_of_pos n hm
  by_cases h : 0 ≤ n
  · exact .inl (Int.tmod_eq_emod_of_nonneg h)
  · have e1 := Int.emod_add_mul_ediv n m
    have e2 := Int.tmod_add_mul_tdiv n m
    have e3 : (n.tmod m - n % m) = m * (n / m - n.tdiv m) := by rw [Int.mul_sub]; omega
    have e4 : n / m - n.tdiv m = 0 ∨ n / m - n.tdiv m = -1 := by
      generalize n / m - n.tdiv m = k at e3
      by_cases k0 : 1 ≤ k
      · have := Int.mul_le_mul_of_nonneg_left k0 (show 0 ≤ m by omega)
        omega
      · by_cases k1 : k ≤ -2
        · have := Int.mul_le_mul_of_nonneg_left k1 (show 0 ≤ m by omega)
          omega
        · omega
    rcases e4 with e4 | e4 <;> rw [e4] at e3 <;> omega
theorem e299 : Ent Tryz.prog 299 Tryz.f299 [] 2 := ⟨Tryz.func299, rfl, by decide, by kernel_rfl, by kernel_rfl, by decide, by kernel_rfl⟩
attribute [push_cast] Tryz.f299
set_option maxHeartbeats 4000000 in
set_option maxRecDepth 400000 in
theorem round01 (n m : Int) (hp : 1 ≤ m ∧ m ≤ 16) : Pur Tryz.prog GG 299 [I n, I m] (I (n % m)) := by
  refine goQ e299 Q4_ok 0 ?_
  simp (maxSteps := 2000000) only [push_cast, seval, ↓kw2]
  have h1 := Int.tmod_lt_of_pos n (show 0 < m by omega)
  have h2 := Int.lt_tmod_of_pos n (show 0 < m by omega)
  have h3 := Int.emod_nonneg n (show m ≠ 0 by omega)
  have h4 := Int.emod_lt_of_pos n (show 0 < m by omega)
  have h5 := tmod_cases n m (by omega)
  repeat' (first | apply And.intro | (intro _))
  all_goals first
    | omega
    | (refine ⟨_, rfl, done_pur rfl ?_⟩; first | (rw [wrapL (by omega) (by omega)]; congr 2; omega) | (congr 2; omega))
@[push_cast] def g299 : List AV → Option (Prop × AV)
  | [(.c (.int .i64 n)), (.c (.int .i64 m))] => some (1 ≤ m ∧ m ≤ 16, I (n % m))
  | _ => none
theorem g299_ok : ∀ args p, g299 args = some p → p.1 → Pur Tryz.prog GG 299 args p.2 := by
  intro args p hp hc
  unfold g299 at hp
  split at hp
  · cases hp
    exact round01 _ _ hc
  · cases hp
@[push_cast] def Q5 : Tab := Tab.ext Q4 299 g299
theorem Q5_ok : TOk Tryz.prog GG Q5 := TOk.ext Q4_ok g299_ok
theorem stp_is {x n s : Int} (h1 : 0 ≤ x) (h2 : x < n) : (x + s % n) % n = stp x n s := by
  unfold stp
  have h3 := Int.tmod_lt_of_pos s (show 0 < n by omega)
  have h4 := Int.lt_tmod_of_pos s (show 0 < n by omega)
  rw [Int.tmod_eq_emod_of_nonneg (by omega)]
  rcases tmod_cases s n (by omega) with e | e
  · rw [← e, Int.add_emod_right]
  · rw [← e, Int.add_assoc]
theorem e297 : Ent Tryz.prog 297 Tryz.f297 [] 4 := ⟨Tryz.func297, rfl, by decide, by kernel_rfl, by kernel_rfl, by decide, by kernel_rfl⟩
attribute [push_cast] Tryz.f297
set_option maxHeartbeats 4000000 in
set_option maxRecDepth 400000 in
theorem on01_0 (a b c m s : Int) (hp : inM a b c m) : Pur Tryz.prog GG 297 [.agg [I a, I b, I c], I m, I 0, I s] (I (stV0 a b c m s)) := by
  refine goQ e297 Q5_ok 0 ?_
  simp (maxSteps := 2000000) only [push_cast, seval, ↓kw2]
  have hb := of_bounds hp
  have he := inM_ofE hp
  have e0 := Int.emod_nonneg s (show a ≠ 0 by omega)
  have e1 := Int.emod_lt_of_pos s (show 0 < a by omega)
  have w1 := wrapL (n := ofX a b c m + s % a) (by omega) (by omega)
  rw [w1, stp_is (by omega) (by omega)]
  have hst := stp_range (x := ofX a b c m) (n := a) (s := s) (by omega) (by omega)
  repeat (first | refine ⟨hp, ?_⟩ | refine And.intro (by omega) ?_ | refine ⟨⟨by omega, by omega⟩, ?_⟩ | refine ⟨⟨hp.1, by unfold okP; omega⟩, ?_⟩)
  exact ⟨_, rfl, done_pur rfl (by rw [stV0, if_pos he])⟩
set_option maxHeartbeats 4000000 in
set_option maxRecDepth 400000 in
theorem on01_1 (a b c m s : Int) (hp : inM a b c m) : Pur Tryz.prog GG 297 [.agg [I a, I b, I c], I m, I 1, I s] (I (stV1 a b c m s)) := by
  refine goQ e297 Q5_ok 0 ?_
  simp (maxSteps := 2000000) only [push_cast, seval, ↓kw2]
  have hb := of_bounds hp
  have he := inM_ofE hp
  have e0 := Int.emod_nonneg s (show b ≠ 0 by omega)
  have e1 := Int.emod_lt_of_pos s (show 0 < b by omega)
  have w1 := wrapL (n := ofY a b c m + s % b) (by omega) (by omega)
  rw [w1, stp_is (by omega) (by omega)]
  have hst := stp_range (x := ofY a b c m) (n := b) (s := s) (by omega) (by omega)
  repeat (first | refine ⟨hp, ?_⟩ | refine And.intro (by omega) ?_ | refine ⟨⟨by omega, by omega⟩, ?_⟩ | refine ⟨⟨hp.1, by unfold okP; omega⟩, ?_⟩)
  exact ⟨_, rfl, done_pur rfl (by rw [stV1, if_pos he])⟩
set_option maxHeartbeats 4000000 in
set_option maxRecDepth 400000 in
theorem on01_2 (a b c m s : Int) (hp : inM a b c m) : Pur Tryz.prog GG 297 [.agg [I a, I b, I c], I m, I 2, I s] (I (stV2 a b c m s)) := by
  refine goQ e297 Q5_ok 0 ?_
  simp (maxSteps := 2000000) only [push_cast, seval, ↓kw2]
  have hb := of_bounds hp
  have he := inM_ofE hp
  have e0 := Int.emod_nonneg s (show c ≠ 0 by omega)
  have e1 := Int.emod_lt_of_pos s (show 0 < c by omega)
  have w1 := wrapL (n := ofZ a b c m + s % c) (by omega) (by omega)
  rw [w1, stp_is (by omega) (by omega)]
  have hst := stp_range (x := ofZ a b c m) (n := c) (s := s) (by omega) (by omega)
  repeat (first | refine ⟨hp, ?_⟩ | refine And.intro (by omega) ?_ | refine ⟨⟨by omega, by omega⟩, ?_⟩ | refine ⟨⟨hp.1, by unfold okP; omega⟩, ?_⟩)
  exact ⟨_, rfl, done_pur rfl (by rw [stV2, if_pos he])⟩
theorem on01 {a b c m k : Int} (hk : 0 ≤ k ∧ k ≤ 2) (hm : inM a b c m) (s : Int) : Pur Tryz.prog GG 297 [.agg [I a, I b, I c], I m, I k, I s] (I (stV a b c m k s)) := by
  have hcs : k = 0 ∨ k = 1 ∨ k = 2 := by omega
  rcases hcs with rfl | rfl | rfl
  · exact on01_0 a b c m s hm
  · exact on01_1 a b c m s hm
  · exact on01_2 a b c m s hm
end Go.Ab.Pd

set_option linter.unusedSimpArgs false
set_option linter.unusedVariables false
namespace Go.Ab
def apHsK (k : Nat) (H : List AO) (s : AV) (es l : List AV) : List AO := match l with
  | [] => H
  | _ => (match s with
    | .sl id _ _ _ => H.set id .dead
    | _ => H) ++ [.arr k (es ++ l)]
theorem apSs_ownK {k : Nat} {H : List AO} {s : AV} {es l : List AV} (h : OwnK k H s es) : OwnK k (apHsK k H s es l) (apSs H s es.length l) (es ++ l) := by
  cases l with
  | nil => simpa [apHsK, apSs] using h
  | cons x l =>
    have h1 : (apHsK k H s es (x :: l))[H.length]? = some (.arr k (es ++ x :: l)) := by
      unfold apHsK
      simp only
      split
      · rw [List.getElem?_append_right (by simp)]; simp
      · rw [List.getElem?_append_right (by simp)]; simp
    have := OwnK.row h1 (by simp; omega)
    simpa [apSs, List.length_append] using this
theorem apHsK_get {k : Nat} {H : List AO} {s : AV} {es l : List AV} {j : Nat} (hj : j < H.length) (hs : ownId s ≠ some j) : (apHsK k H s es l)[j]? = H[j]? := by
  unfold apHsK
  split
  · rfl
  · split
    · rename_i id _ _ _
      have : id ≠ j := fun e => hs (by simp [ownId, e])
      rw [List.getElem?_append_left (by simp; omega), List.getElem?_set_ne this]
    · rw [List.getElem?_append_left hj]
theorem aAppFK {P : Program} {t u e e' : TypeId} (ht : P.underlying t = some (.slice e)) (hu : P.underlying u = some (.slice e')) {z : AV} {by' k : Nat} (hz : zeroEl P e = some z) (hz1 : z.cells.length = k) (hb : bytesT P e = some by')
    {H : List AO} {s : AV} {es : List AV} (h : OwnK k H s es) {l : List AV} (hl : ∀ x ∈ l, x.cells.length = k) :
    ∃ C, aAppend P t u s (frS l) H = some ⟨C, apSs H s es.length l, apHsK k H s es l⟩ ∧ ((es.length + l.length) * by' ≤ 2 ^ 40 → es.length + l.length ≤ 2 ^ 40 → C) := by
  have hc : 0 < l.length → (l.getD 0 .un).cells.length = k := fun h0 => by
    cases l with
    | nil => simp at h0
    | cons x l => simpa [List.getD] using hl x (by simp)
  cases l with
  | nil =>
    have : aAppend P t u s (frS []) H = some ⟨True, s, H⟩ := by
      unfold aAppend
      simp only [ht, hu, hz, hb, frS, elsOf]
      cases h with
      | nil => simp [aAppNew]
      | row hid h0 => rfl
    exact ⟨True, this, fun _ _ => trivial⟩
  | cons x l =>
    unfold aAppend
    simp only [ht, hu, hz, hb, hz1, elsOf, frS]
    cases h with
    | nil =>
      simp only [aAppNew, apHsK, apSs, hz1, List.length_cons, List.length_nil, Nat.zero_add, List.nil_append]
      exact ⟨_, rfl, fun h1 h2 => ⟨hc, h1, h2⟩⟩
    | row h h0 =>
      simp only [h, Nat.zero_add, Nat.le_refl, h0, and_self, if_true, List.drop_zero, List.take_length, apHsK, apSs]
      exact ⟨_, rfl, fun h1 h2 => ⟨hc, h1, h2⟩⟩
theorem AC.freezeArgK {P : Program} {G : Gl} {k : Nat} {f : FuncId} {pre post : List AV} {H : List AO} {id cap : Nat} {es : List AV} {K : AV → List AO → Prop} (hid : H[id]? = some (.arr k es)) (hne : 0 < es.length) (hpure : AV.purL es = true)
    (h : AC P G f (pre ++ ([.isl es] ++ post)) (H.set id .dead) K) : AC P G f (pre ++ ([.sl id 0 es.length cap] ++ post)) H K := by
  refine ⟨h.1, fun E w vargs hH hA cs => ?_⟩
  obtain ⟨l, hl, hszl, c, t, hcell, hs, hr⟩ := hH.obj id _ hid rfl
  let E' : En := { loc := E.loc, fro := fun b => E.fro b ∨ b = l.b }
  have hlv : Live H E l.b := ⟨id, _, l, hid, rfl, hl, rfl⟩
  have hm : Mono w E w E' := ⟨fun b hb => .inl hb, fun _ _ => rfl, fun _ _ h => h, fun _ _ h => h⟩
  have hidl := (List.getElem?_eq_some_iff.1 hid).1
  have hget : ∀ (j : Nat) (oj : AO), (H.set id .dead)[j]? = some oj → oj.live = true → j ≠ id ∧ H[j]? = some oj := by
    intro j oj hj hoj
    by_cases e : j = id
    · subst e
      rw [List.getElem?_set_self hidl] at hj
      cases hj; simp [AO.live] at hoj
    · rw [List.getElem?_set_ne (fun h => e h.symm)] at hj
      exact ⟨e, hj⟩
  have hsub : ∀ b, Live (H.set id .dead) E' b → Live H E b ∧ b ≠ l.b := by
    rintro b ⟨j, oj, lj, hj, hoj, hlj, rfl⟩
    obtain ⟨h1, h2⟩ := hget j oj hj hoj
    exact ⟨⟨j, oj, lj, h2, hoj, hlj, rfl⟩, fun e => h1 (hH.inj j id oj _ lj l h2 hoj hid rfl hlj hl e)⟩
  have hR : RelH G w E' (H.set id .dead) := by
    refine ⟨fun j oj hj hoj => ?_, fun j j' o1 o2 l1 l2 h1 ho1 h2 ho2 hl1 hl2 hb => ?_, fun b hb => ?_, fun b hb hl' => ?_, fun j lj hlj => by rw [List.length_set]; exact hH.dom j lj hlj, fun g cs hg => (hH.gl g cs hg).mono hm⟩
    · obtain ⟨h1, h2⟩ := hget j oj hj hoj
      obtain ⟨lj, hlj, hrj⟩ := hH.obj j oj h2 hoj
      exact ⟨lj, hlj, hrj.mono hm rfl⟩
    · exact hH.inj j j' o1 o2 l1 l2 (hget _ _ h1 ho1).2 ho1 (hget _ _ h2 ho2).2 ho2 hl1 hl2 hb
    · rcases hb with hb | rfl
      · exact hH.frob b hb
      · exact ⟨c, t, _, hcell⟩
    · obtain ⟨h1, h2⟩ := hsub b hl'
      rcases hb with hb | hb
      · exact hH.sep b hb h1
      · exact h2 hb
  have hA' : RepL w E' (pre ++ ([.isl es] ++ post)) vargs := by
    have hlen : (pre ++ ([AV.sl id 0 es.length cap] ++ post)).length = (pre ++ ([AV.isl es] ++ post)).length := by simp
    refine ⟨by rw [hA.1, hlen], fun i hi => ?_⟩
    have h1 := hA.2 i (by rw [hlen]; exact hi)
    rcases Nat.lt_trichotomy i pre.length with hlt | heq | hgt
    · have e1 : (pre ++ ([AV.isl es] ++ post)).getD i .un = pre.getD i .un := by simp [List.getD, List.getElem?_append_left hlt]
      have e2 : (pre ++ ([AV.sl id 0 es.length cap] ++ post)).getD i .un = pre.getD i .un := by simp [List.getD, List.getElem?_append_left hlt]
      rw [e2] at h1
      rw [e1]
      exact h1.mono hm
    · subst heq
      have e1 : (pre ++ ([AV.isl es] ++ post)).getD pre.length .un = .isl es := by simp [List.getD]
      have e2 : (pre ++ ([AV.sl id 0 es.length cap] ++ post)).getD pre.length .un = .sl id 0 es.length cap := by simp [List.getD]
      rw [e2] at h1
      rw [e1]
      generalize vargs.getD pre.length undef = x at h1
      cases h1 with
      | sl hloc g1 g2 g3 =>
        rename_i l' ad cc
        rw [hl] at hloc; cases hloc
        obtain ⟨rfl, n, hrow, hle⟩ := g3 (by omega)
        refine RepV.isl (sz := k) (f := fun i j => c.getD (l.base + 0 * l.sz + i * k + j) undef) (fun _ => ⟨.inr rfl, rfl⟩) (by omega) (fun i hi => ⟨(hr i hi).1, (hr i hi).2.1⟩) (fun i j hi hj => ?_) (fun i j hi hj => ((hr i hi).2.2 j hj).1) (fun i j hi hj => ?_)
        · have h4 := Nat.mul_le_mul_right k (show i + 1 ≤ es.length by omega)
          rw [Nat.add_mul, Nat.one_mul] at h4
          show w.cell? ⟨l.b, l.base + 0 * l.sz + i * k + j, none⟩ = _
          exact cell?_row' hcell (by omega)
        · have h3 := ((hr i hi).2.2 j hj).2
          rw [show l.base + 0 * l.sz + i * k + j = l.base + i * k + j by omega]
          exact h3.mono hm
    · obtain ⟨k2, rfl⟩ : ∃ k2, i = pre.length + (k2 + 1) := ⟨i - pre.length - 1, by omega⟩
      have e1 : (pre ++ ([AV.isl es] ++ post)).getD (pre.length + (k2 + 1)) .un = post.getD k2 .un := by simp [List.getD, List.getElem?_append_right]
      have e2 : (pre ++ ([AV.sl id 0 es.length cap] ++ post)).getD (pre.length + (k2 + 1)) .un = post.getD k2 .un := by simp [List.getD, List.getElem?_append_right]
      rw [e2] at h1
      rw [e1]
      exact h1.mono hm
  obtain ⟨v, H', E2, w', r, fr, hK, k1, k2, k3, k4, k5, k6⟩ := h.2 E' w vargs hR hA' cs
  refine ⟨v, H', E2, w', r, fr, hK, k1, ⟨hm.trans k2.mono, k2.size, fun b hb hnl => k2.same b hb (fun hl' => hnl (hsub b hl').1), fun b hb => ?_, fun b hb => ?_, k2.os, k2.tape, k2.output⟩, k3, k4, k5, k6⟩
  · rcases k2.newfro b hb with (h1 | h1) | h1 | h1
    · exact .inl h1
    · exact .inr (.inr (h1 ▸ hlv))
    · exact .inr (.inl h1)
    · exact .inr (.inr (hsub b h1).1)
  · rcases k2.newlive b hb with h1 | h1
    · exact .inl (hsub b h1).1
    · exact .inr h1
theorem OwnK.freeze {P : Program} {G : Gl} {k : Nat} {f : FuncId} {pre post : List AV} {H : List AO} {s : AV} {es : List AV} {K : AV → List AO → Prop} (ho : OwnK k H s es) (hpure : AV.purL es = true)
    (h : ∀ H', (∀ j, ownId s ≠ some j → H'[j]? = H[j]?) → AC P G f (pre ++ ([frS es] ++ post)) H' K) : AC P G f (pre ++ ([s] ++ post)) H K := by
  cases ho with
  | nil => exact h H (fun _ _ => rfl)
  | row hid h0 =>
    rename_i id
    refine AC.freezeArgK hid h0 hpure ?_
    have := h (H.set id .dead) (fun j hj => List.getElem?_set_ne (fun e => hj (by simp [ownId, e])))
    rwa [frS_ne h0] at this
end Go.Ab

set_option linter.unusedSimpArgs false
set_option linter.unusedVariables false
namespace Go.Ab.Pd
open Go.Proofs
theorem e93 : Ent Tryz.prog 93 Tryz.f93 [] 2 := ⟨Tryz.func93, rfl, by decide, by kernel_rfl, by kernel_rfl, by decide, by kernel_rfl⟩
attribute [push_cast] Tryz.f93
set_option maxHeartbeats 4000000 in
set_option maxRecDepth 400000 in
theorem there_pur {s : AV} {ws : List Int} (hs : IsSl s (ws.map U)) (hw : ∀ w ∈ ws, inU w) (hl : ws.length ≤ 2 ^ 20) {k : Int} (h0 : 0 ≤ k) (h1 : k < 2 ^ 40) : Pur Tryz.prog GG 93 [s, I k] (B (bitAt ws k.toNat)) := by
  have hpu := hs.pur (purL_map U _ fun _ => rfl)
  have hlen := hs.len (P := Tryz.prog) un28
  rw [List.length_map] at hlen
  have d0 : decide (0 ≤ k) = true := decide_eq_true h0
  have hq0 : k.tdiv 64 = k / 64 := Int.tdiv_eq_ediv_of_nonneg h0
  have hm0 : k.tmod 64 = k % 64 := Int.tmod_eq_emod_of_nonneg h0
  have hkw := wrapL (n := k.tdiv 64) (by omega) (by omega)
  have hkm := Int.tmod_nonneg 64 h0
  have hkd := Int.tdiv_nonneg (b := 64) h0 (by decide)
  by_cases hlt : k.tdiv 64 < (ws.length : Int)
  · have d1 : decide (k.tdiv 64 < (ws.length : Int)) = true := decide_eq_true hlt
    have hkq : (k.tdiv 64).toNat < ws.length := by omega
    have hx := fun H => hs.idx (P := Tryz.prog) un28 sz132 (i := k.tdiv 64) (by rw [List.length_map]; exact hlt) hkd H
    rw [getD_map U ws 0 hkq] at hx
    have hgu := getD_inU hw (k.tdiv 64).toNat
    have hbb : (0 ≤ k.tdiv 64 ∧ k.tdiv 64 < ((ws.map U).length : Int)) := ⟨hkd, by rw [List.length_map]; exact hlt⟩
    refine goQ e93 TOk.nil 0 ?_ (by simp [AV.purL, AV.pur, hpu])
    simp (maxSteps := 2000000) only [push_cast, seval, ↓kw2, hlen, d0, d1, hkw, hx]
    repeat (first | refine ⟨hbb, ?_⟩ | refine And.intro (by omega) ?_)
    refine ⟨_, rfl, done_pur rfl ?_⟩
    unfold bitAt
    rw [show k.toNat / 64 = (k.tdiv 64).toNat by omega, show k.toNat % 64 = (k.tmod 64).toNat by omega, ← bit_val hgu (by omega : (k.tmod 64).toNat < 64)]
  · have d1 : decide (k.tdiv 64 < (ws.length : Int)) = false := decide_eq_false hlt
    rw [bitAt_out (by omega)]
    refine goQ e93 TOk.nil 0 ?_ (by simp [AV.purL, AV.pur, hpu])
    simp (maxSteps := 2000000) only [push_cast, seval, ↓kw2, hlen, d0, d1, hkw]
    exact ⟨_, rfl, done_pur rfl rfl⟩
theorem e36 : Ent Tryz.prog 36 Tryz.f36 [] 2 := ⟨Tryz.func36, rfl, by decide, by kernel_rfl, by kernel_rfl, by decide, by kernel_rfl⟩
attribute [push_cast] Tryz.f36
set_option maxHeartbeats 4000000 in
set_option maxRecDepth 400000 in
theorem may3_pur {s : AV} {ws : List Int} (hs : IsSl s (ws.map U)) (hw : ∀ w ∈ ws, inU w) (hl : ws.length ≤ 2 ^ 20) {n : Int} (hn : 1 ≤ n ∧ n ≤ 12288) : Pur Tryz.prog GG 36 [I n, s] (B (decide (schk n ws = 0))) := by
  have hpu := hs.pur (purL_map U _ fun _ => rfl)
  have hlen := hs.len (P := Tryz.prog) un28
  rw [List.length_map] at hlen
  refine goQ e36 TOk.nil 0 ?_ (by simp [AV.purL, AV.pur, hpu])
  simp (maxSteps := 2000000) only [push_cast, seval, ↓kw2]
  refine FW.loopInv (fun m ts H => ∃ w : Int, w + (m : Int) = (n + 63) / 64 ∧ 0 ≤ w ∧ ts 0 = I n ∧ ts 1 = s ∧ ts 5 = I w) ((n + 63) / 64).toNat ⟨0, by omega, by omega, rfl, rfl, rfl⟩ ?_
  rintro m ih ts H ⟨w, hm, hw0, t0, t1, t5⟩
  refine FW.inLoop ?_
  have w1 := wrapL (n := 64 * w) (by omega) (by omega)
  have w2 := wrapL (n := w + 1) (by omega) (by omega)
  by_cases hlt : w < (n + 63) / 64
  · have d1 : decide (64 * w < n) = true := decide_eq_true (by omega)
    refine goN ?_
    simp (maxSteps := 2000000) only [push_cast, seval, ↓kw2, t0, t1, t5, w1, w2, d1]
    exact ih (m - 1) (by omega) _ _ ⟨w + 1, by omega, by omega, t0, t1, rfl⟩
  · have hwe : w = (n + 63) / 64 := by omega
    have d1 : decide (64 * w < n) = false := decide_eq_false (by omega)
    by_cases hl2 : (ws.length : Int) = w
    · have d2 : decide ((ws.length : Int) ≠ w) = false := by simp [hl2]
      refine goN ?_
      simp (maxSteps := 2000000) only [push_cast, seval, ↓kw2, t0, t1, t5, w1, w2, d1, hlen, d2]
      clear ih
      refine FW.loopInv (fun m ts H => ∃ k : Int, k + (m : Int) = 64 * w ∧ n ≤ k ∧ (∀ j : Nat, n ≤ (j : Int) → (j : Int) < k → bitAt ws j = false) ∧ ts 0 = I n ∧ ts 1 = s ∧ ts 5 = I w ∧ ts 6 = I k) (64 * w - n).toNat
        ⟨n, by omega, by omega, fun j h1 h2 => by omega, t0, t1, t5, rfl⟩ ?_
      clear t0 t1 t5 ts H
      rintro m ih ts H ⟨k, hk, hk0, hb, t0, t1, t5, t6⟩
      refine FW.inLoop ?_
      have w3 := wrapL (n := k + 1) (by omega) (by omega)
      by_cases hkl : k < 64 * w
      · have d3 : decide (k < 64 * w) = true := decide_eq_true hkl
        refine goN ?_
        simp (maxSteps := 2000000) only [push_cast, seval, ↓kw2, t0, t1, t5, t6, w1, w3, d3]
        refine AC.pur (there_pur hs hw hl (by omega) (by omega)) ?_
        cases hbk : bitAt ws k.toNat
        · skip
          refine goN ?_
          simp (maxSteps := 2000000) only [push_cast, seval, ↓kw2, t0, t1, t5, t6, w1, w3, d3]
          refine ih (m - 1) (by omega) _ _ ⟨k + 1, by omega, by omega, fun j h1 h2 => ?_, t0, t1, t5, rfl⟩
          by_cases hjk : (j : Int) = k
          · rw [← hbk]; congr 1; omega
          · exact hb j h1 (by omega)
        · skip
          refine goN ?_
          simp (maxSteps := 2000000) only [push_cast, seval, ↓kw2, t0, t1, t5, t6, w1, w3, d3]
          refine ⟨_, rfl, done_pur rfl ?_⟩
          rw [decide_eq_false]
          intro hc
          obtain ⟨_, _, h3⟩ := (schk_bits hw).1 hc
          rw [h3 k.toNat (by omega)] at hbk
          cases hbk
      · have d3 : decide (k < 64 * w) = false := decide_eq_false hkl
        refine goN ?_
        simp (maxSteps := 2000000) only [push_cast, seval, ↓kw2, t0, t1, t5, t6, w1, w3, d3]
        refine ⟨_, rfl, done_pur rfl ?_⟩
        rw [decide_eq_true ((schk_bits hw).2 ⟨hn, by omega, fun j hj => ?_⟩)]
        by_cases hjk : (j : Int) < k
        · exact hb j hj hjk
        · exact bitAt_out (by omega)
    · have d2 : decide ((ws.length : Int) ≠ w) = true := by simp [hl2]
      refine goN ?_
      simp (maxSteps := 2000000) only [push_cast, seval, ↓kw2, t0, t1, t5, w1, w2, d1, hlen, d2]
      refine ⟨_, rfl, done_pur rfl ?_⟩
      rw [decide_eq_false]
      intro hc
      obtain ⟨_, h2, _⟩ := (schk_bits hw).1 hc
      omega
theorem e203 : Ent Tryz.prog 203 Tryz.f203 [] 1 := ⟨Tryz.func203, rfl, by decide, by kernel_rfl, by kernel_rfl, by decide, by kernel_rfl⟩
attribute [push_cast] Tryz.f203
set_option maxHeartbeats 4000000 in
set_option maxRecDepth 400000 in
theorem all3_pur {s : AV} {ws : List Int} (hs : IsSl s (ws.map U)) (hw : ∀ w ∈ ws, inU w) (hl : ws.length ≤ 2 ^ 12) : Pur Tryz.prog GG 203 [s] (frS ((allB ws (64 * ws.length)).map IA)) := by
  have hpu := hs.pur (purL_map U _ fun _ => rfl)
  have hlen := hs.len (P := Tryz.prog) un28
  rw [List.length_map] at hlen
  refine goQ e203 TOk.nil 0 ?_ (by simp [AV.purL, AV.pur, hpu])
  simp (maxSteps := 2000000) only [push_cast, seval, ↓kw2]
  refine FW.loopInv (fun m ts H => ∃ (k : Nat) (o : AV), k + m = 64 * ws.length ∧ Own H o ((allB ws k).map IA) ∧ ts 0 = s ∧ ts 3 = o ∧ ts 4 = I (k : Int)) (64 * ws.length) ⟨0, _, by omega, .nil, rfl, rfl, rfl⟩ ?_
  rintro m ih ts H ⟨k, o, hk, hown, t0, t3, t4⟩
  refine FW.inLoop ?_
  have w1 := wrapL (n := 64 * (ws.length : Int)) (by omega) (by omega)
  have w2 := wrapL (n := (k : Int) + 1) (by omega) (by omega)
  have hsucc : allB ws (k + 1) = allB ws k ++ if bitAt ws k = true then [(k : Int)] else [] := by
    unfold allB
    rw [List.range_succ, List.map_append, List.filter_append]
    congr 1
    by_cases hb : bitAt ws k = true <;> simp [hb]
  by_cases hlt : k < 64 * ws.length
  · have d1 : decide ((k : Int) < 64 * (ws.length : Int)) = true := decide_eq_true (by omega)
    refine goN ?_
    simp (maxSteps := 2000000) only [push_cast, seval, ↓kw2, t0, t3, t4, hlen, w1, d1]
    refine AC.pur (there_pur hs hw (by omega) (by omega) (by omega)) ?_
    rw [show ((k : Int)).toNat = k from Int.toNat_natCast k]
    cases hbk : bitAt ws k
    · rw [hbk] at hsucc
      refine goN ?_
      simp (maxSteps := 2000000) only [push_cast, seval, ↓kw2, t0, t3, t4, w2]
      exact ih (m - 1) (by omega) _ _ ⟨k + 1, o, by omega, by rw [hsucc]; simpa using hown, t0, t3, rfl⟩
    · rw [hbk, if_pos rfl] at hsucc
      have hap := fun v => aApp1 (P := Tryz.prog) un56 un56 ze3 rfl by3 hown v
      have hle : (allB ws k).length ≤ 2 ^ 18 := by
        unfold allB
        refine Nat.le_trans (List.length_filter_le _ _) ?_
        simp
        omega
      refine goN ?_
      simp (maxSteps := 2000000) only [push_cast, seval, ↓kw2, t0, t3, t4, w2, hap]
      refine ⟨apC_of (by rw [List.length_map]; omega) (by decide), ?_⟩
      exact ih (m - 1) (by omega) _ _ ⟨k + 1, _, by omega, by rw [hsucc]; exact apI, t0, rfl, rfl⟩
  · have d1 : decide ((k : Int) < 64 * (ws.length : Int)) = false := decide_eq_false (by omega)
    have hke : k = 64 * ws.length := by omega
    rw [hke] at hown
    refine goN ?_
    simp (maxSteps := 2000000) only [push_cast, seval, ↓kw2, t0, t3, t4, hlen, w1, d1]
    exact ⟨_, rfl, hown.done (purL_map IA _ fun _ => rfl)⟩
theorem e151 : Ent Tryz.prog 151 Tryz.f151 [] 2 := ⟨Tryz.func151, rfl, by decide, by kernel_rfl, by kernel_rfl, by decide, by kernel_rfl⟩
attribute [push_cast] Tryz.f151
set_option maxHeartbeats 4000000 in
set_option maxRecDepth 400000 in
theorem meets_pur {s r : AV} {xs ys : List Int} (hs : IsSl s (xs.map U)) (hr : IsSl r (ys.map U)) (hx : ∀ w ∈ xs, inU w) (hy : ∀ w ∈ ys, inU w) (hl : xs.length ≤ 2 ^ 12) (hl2 : ys.length ≤ 2 ^ 12) : Pur Tryz.prog GG 151 [s, r] (B (meetB xs ys)) := by
  have hps := hs.pur (purL_map U _ fun _ => rfl)
  have hpr := hr.pur (purL_map U _ fun _ => rfl)
  have hA := all3_pur hs hx hl
  unfold meetB
  have hmem : ∀ k ∈ allB xs (64 * xs.length), 0 ≤ k ∧ k < 2 ^ 20 := fun k hk => by
    have := (allB_mem.1 hk).1
    omega
  have hle : (allB xs (64 * xs.length)).length ≤ 2 ^ 18 := by
    unfold allB
    refine Nat.le_trans (List.length_filter_le _ _) ?_
    simp
    omega
  generalize allB xs (64 * xs.length) = l at hA hmem hle
  have hL : IsSl (frS (l.map IA)) (l.map IA) := IsSl.frS _
  generalize frS (l.map IA) = o at hA hL
  have hlen := hL.len (P := Tryz.prog) un56
  rw [List.length_map] at hlen
  have hidx := fun (i : Nat) (hi : i < l.length) (H : List AO) => hL.idx (P := Tryz.prog) un56 sz3 (i := (i : Int)) (by rw [List.length_map]; omega) (by omega) H
  refine goQ e151 TOk.nil 0 ?_ (by simp [AV.purL, AV.pur, hps, hpr])
  simp (maxSteps := 2000000) only [push_cast, seval, ↓kw2]
  refine AC.pur hA ?_
  refine goN ?_
  simp (maxSteps := 2000000) only [push_cast, seval, ↓kw2]
  refine FW.loopInv (fun m ts H => ∃ i : Nat, i + m = l.length ∧ ((l.drop i).any fun k => bitAt ys k.toNat) = (l.any fun k => bitAt ys k.toNat) ∧ ts 1 = r ∧ ts 5 = o ∧ ts 6 = I (i : Int)) l.length ⟨0, by omega, rfl, rfl, rfl, rfl⟩ ?_
  rintro m ih ts H ⟨i, hi, hf, t1, t5, t6⟩
  refine FW.inLoop ?_
  have w2 := wrapL (n := (i : Int) + 1) (by omega) (by omega)
  by_cases hlt : i < l.length
  · have d1 : decide ((i : Int) < (l.length : Int)) = true := decide_eq_true (by omega)
    have hxi := hidx i hlt
    simp only [Int.toNat_natCast] at hxi
    rw [getD_map IA l 0 hlt] at hxi
    have hk := hmem (l.getD i 0) (by simp [List.getD, hlt])
    rw [drop_cons 0 hlt, List.any_cons] at hf
    generalize l.getD i 0 = k at hxi hk hf
    have hbb : (0 ≤ (i : Int) ∧ (i : Int) < ((l.map IA).length : Int)) := ⟨by omega, by rw [List.length_map]; omega⟩
    refine goN ?_
    simp (maxSteps := 2000000) only [push_cast, seval, ↓kw2, t1, t5, t6, hlen, d1, hxi]
    repeat (first | refine ⟨hbb, ?_⟩ | refine And.intro (by omega) ?_)
    refine AC.pur (there_pur hr hy (by omega) hk.1 (by omega)) ?_
    cases hbk : bitAt ys k.toNat
    · rw [hbk, Bool.false_or] at hf
      refine goN ?_
      simp (maxSteps := 2000000) only [push_cast, seval, ↓kw2, t1, t5, t6, w2]
      exact ih (m - 1) (by omega) _ _ ⟨i + 1, by omega, hf, t1, t5, rfl⟩
    · rw [hbk, Bool.true_or] at hf
      refine goN ?_
      simp (maxSteps := 2000000) only [push_cast, seval, ↓kw2, t1, t5, t6, w2]
      exact ⟨_, rfl, done_pur rfl (by rw [← hf])⟩
  · have d1 : decide ((i : Int) < (l.length : Int)) = false := decide_eq_false (by omega)
    rw [List.drop_eq_nil_of_le (by omega)] at hf
    refine goN ?_
    simp (maxSteps := 2000000) only [push_cast, seval, ↓kw2, t1, t5, t6, hlen, d1]
    exact ⟨_, rfl, done_pur rfl (by rw [← hf]; rfl)⟩
theorem e200 : Ent Tryz.prog 200 Tryz.f200 [] 2 := ⟨Tryz.func200, rfl, by decide, by kernel_rfl, by kernel_rfl, by decide, by kernel_rfl⟩
attribute [push_cast] Tryz.f200
set_option maxHeartbeats 4000000 in
set_option maxRecDepth 400000 in
theorem from_pur {s : AV} {l : List Int} (hs : IsSl s (l.map IA)) {n : Int} (hn : 1 ≤ n ∧ n ≤ 12288) (hl : ∀ k ∈ l, 0 ≤ k ∧ k < n) (hle : l.length ≤ 2 ^ 26) : Pur Tryz.prog GG 200 [I n, s] (.isl ((ofL n l).map U)) := by
  have hpu := hs.pur (purL_map IA _ fun _ => rfl)
  have hlen := hs.len (P := Tryz.prog) un56
  rw [List.length_map] at hlen
  have hidx := fun (i : Nat) (hi : i < l.length) (H : List AO) => hs.idx (P := Tryz.prog) un56 sz3 (i := (i : Int)) (by rw [List.length_map]; omega) (by omega) H
  have hw : wordsV n = (n + 63) / 64 := by rw [wordsV, if_pos hn]
  have e1 : (n + 63).tdiv 64 = (n + 63) / 64 := Int.tdiv_eq_ediv_of_nonneg (by omega)
  have w0 := wrapL (n := n + 63) (by omega) (by omega)
  have w1 := wrapL (n := (n + 63) / 64) (by omega) (by omega)
  obtain ⟨q, hq⟩ : ∃ q, ((n + 63) / 64).toNat = q + 1 := ⟨((n + 63) / 64).toNat - 1, by omega⟩
  refine goQ e200 TOk.nil 0 ?_ (by simp [AV.purL, AV.pur, hpu])
  simp (maxSteps := 2000000) only [push_cast, seval, ↓kw2, w0, e1, w1, hq]
  repeat (first | refine ⟨⟨by omega, by omega⟩, ?_⟩ | refine ⟨⟨by omega, by omega, by omega⟩, ?_⟩ | refine And.intro (by omega) ?_)
  refine FW.loopInv (fun m ts H => ∃ (i : Nat) (ws : List Int), i + m = l.length ∧ (l.drop i).foldl setW ws = ofL n l ∧ ws.length = q + 1 ∧ (∀ w ∈ ws, inU w) ∧ H = [.arr 1 (ws.map U)] ∧ ts 1 = s ∧ ts 5 = .sl 0 0 (q + 1) (q + 1) ∧ ts 6 = I (i : Int)) l.length
    ⟨0, List.replicate (q + 1) 0, by omega, by unfold ofL; rw [hw, hq]; rfl, by simp, fun w hw => by rw [List.eq_of_mem_replicate hw]; exact inU_0, by simp, rfl, rfl, rfl⟩ ?_
  rintro m ih ts H ⟨i, ws, hi, hws, hwl, hwu, rfl, t1, t5, t6⟩
  refine FW.inLoop ?_
  have w2 := wrapL (n := (i : Int) + 1) (by omega) (by omega)
  by_cases hlt : i < l.length
  · have d1 : decide ((i : Int) < (l.length : Int)) = true := decide_eq_true (by omega)
    have hxi := hidx i hlt
    simp only [Int.toNat_natCast] at hxi
    rw [getD_map IA l 0 hlt] at hxi
    have hk := hl (l.getD i 0) (by simp [List.getD, hlt])
    rw [drop_cons 0 hlt, List.foldl_cons] at hws
    generalize l.getD i 0 = k at hxi hk hws
    have hbb : (0 ≤ (i : Int) ∧ (i : Int) < ((l.map IA).length : Int)) := ⟨by omega, by rw [List.length_map]; omega⟩
    have hkd0 := Int.tdiv_eq_ediv_of_nonneg (b := 64) hk.1
    have hkw := wrapL (n := k.tdiv 64) (by omega) (by omega)
    have hkq : (k.tdiv 64).toNat < ws.length := by omega
    have hkq' : (k.tdiv 64).toNat < (ws.map U).length := by rw [List.length_map]; exact hkq
    have hgd := getD_map U ws 0 hkq
    have hkm := Int.tmod_nonneg 64 hk.1
    have hkd := Int.tdiv_nonneg (b := 64) hk.1 (by decide)
    refine goN ?_
    simp (maxSteps := 2000000) only [push_cast, seval, ↓kw2, t1, t5, t6, hlen, d1, hxi]
    repeat (first | refine ⟨hbb, ?_⟩ | refine And.intro (by omega) ?_)
    refine AC.view ggp (n := 2) (args' := [.isl (ws.map U), I k]) ?_ (by simp [AV.purL, AV.pur]) rfl (there_pur (.inl rfl) hwu (by omega) hk.1 (by omega)) ?_
    · have hown : Own [.arr 1 (ws.map U)] (.sl 0 0 (q + 1) (q + 1)) (ws.map U) := by
        have := Own.row (H := [.arr 1 (ws.map U)]) (id := 0) rfl (by rw [List.length_map, hwl]; omega)
        rwa [List.length_map, hwl] at this
      have hf := hown.frz (purL_map U _ fun _ => rfl) (n := 0)
      rw [frS_ne (by rw [List.length_map, hwl]; omega)] at hf
      show mapO (frz 2 [.arr 1 (ws.map U)]) [.sl 0 0 (q + 1) (q + 1), I k] = _
      rw [mapO, hf]
      rfl
    · cases hbk : bitAt ws k.toNat
      · have hadd := from_add hwu hk.1 hbk
        have hset : (ws.map U).set (k.tdiv 64).toNat (.c (.int .u64 (addW (ws.getD (k.tdiv 64).toNat 0) k))) = (setW ws k).map U := by rw [hadd, List.map_set]
        refine goN ?_
        simp (maxSteps := 2000000) only [push_cast, seval, ↓kw2, t1, t5, t6, w2, hxi, hkw, hkq', hgd]
        repeat (first | refine ⟨hbb, ?_⟩ | refine And.intro (by omega) ?_)
        exact ih (m - 1) (by omega) _ _ ⟨i + 1, setW ws k, by omega, hws, by rw [setW_length, hwl], setW_inU hwu k, congrArg (fun q => [AO.arr 1 q]) hset, t1, t5, rfl⟩
      · have hsame := from_same hwu hk.1 (by omega) hbk
        rw [hsame] at hws
        refine goN ?_
        simp (maxSteps := 2000000) only [push_cast, seval, ↓kw2, t1, t5, t6, w2]
        exact ih (m - 1) (by omega) _ _ ⟨i + 1, ws, by omega, hws, hwl, hwu, rfl, t1, t5, rfl⟩
  · have d1 : decide ((i : Int) < (l.length : Int)) = false := decide_eq_false (by omega)
    rw [List.drop_eq_nil_of_le (by omega)] at hws
    have hws' : ws = ofL n l := hws
    subst hws'
    refine goN ?_
    simp (maxSteps := 2000000) only [push_cast, seval, ↓kw2, t1, t5, t6, hlen, d1]
    have hown : Own [.arr 1 ((ofL n l).map U)] (.sl 0 0 (q + 1) (q + 1)) ((ofL n l).map U) := by
      have := Own.row (H := [.arr 1 ((ofL n l).map U)]) (id := 0) rfl (by rw [List.length_map, hwl]; omega)
      rwa [List.length_map, hwl] at this
    obtain ⟨m', hm'⟩ := hown.done (purL_map U _ (fun _ => rfl))
    exact ⟨_, rfl, m', by rw [hm', frS_ne (by rw [List.length_map, hwl]; omega)]⟩
end Go.Ab.Pd

set_option linter.unusedSimpArgs false
set_option linter.unusedVariables false
namespace Go.Ab.Pd
open Go.Proofs
theorem e47 : Ent Tryz.prog 47 Tryz.f47 [] 2 := ⟨Tryz.func47, rfl, by decide, by kernel_rfl, by kernel_rfl, by decide, by kernel_rfl⟩
attribute [push_cast] Tryz.f47
set_option maxHeartbeats 4000000 in
set_option maxRecDepth 400000 in
theorem may02 (a b c x y z p q r : Int) : Pur Tryz.prog GG 47 [.agg [I a, I b, I c], .agg [I x, I y, I z, I p, I q, I r]] (B (decide (okB a b c x y z p q r))) := by
  refine goQ e47 Q5_ok 5 ?_
  simp (maxSteps := 2000000) only [push_cast, seval, ↓kw2]
  repeat' (first | apply And.intro | intro _)
  all_goals
    refine ⟨_, rfl, done_pur rfl ?_⟩
    simp only [AV.c.injEq, Value.bool.injEq]
    first | exact (decide_eq_true (by unfold okB ok1; omega)).symm | exact (decide_eq_false (by unfold okB ok1; omega)).symm
@[push_cast] def g47 : List AV → Option (Prop × AV)
  | [.agg [(.c (.int .i64 a)), (.c (.int .i64 b)), (.c (.int .i64 c))], .agg [(.c (.int .i64 x)), (.c (.int .i64 y)), (.c (.int .i64 z)), (.c (.int .i64 p)), (.c (.int .i64 q)), (.c (.int .i64 r))]] => some (True, B (decide (okB a b c x y z p q r)))
  | _ => none
theorem g47_ok : ∀ args p, g47 args = some p → p.1 → Pur Tryz.prog GG 47 args p.2 := by
  intro args p hp hc
  unfold g47 at hp
  split at hp
  · cases hp
    exact may02 _ _ _ _ _ _ _ _ _
  · cases hp
@[push_cast] def Q6 : Tab := Tab.ext Q5 47 g47
theorem Q6_ok : TOk Tryz.prog GG Q6 := TOk.ext Q5_ok g47_ok
theorem can_0 {n s x : Int} : can 0 n s x = if s = n then 0 else x := by unfold can; rw [if_pos rfl]
theorem e133 : Ent Tryz.prog 133 Tryz.f133 [] 2 := ⟨Tryz.func133, rfl, by decide, by kernel_rfl, by kernel_rfl, by decide, by kernel_rfl⟩
attribute [push_cast] Tryz.f133
set_option maxHeartbeats 4000000 in
set_option maxRecDepth 400000 in
theorem told02 (a b c x y z p q r : Int) : Pur Tryz.prog GG 133 [.agg [I a, I b, I c], .agg [I x, I y, I z, I p, I q, I r]] (.agg [I (can 0 a p x), I (can 0 b q y), I (can 0 c r z), I p, I q, I r]) := by
  refine goQ e133 Q6_ok 5 ?_
  simp (maxSteps := 2000000) only [push_cast, seval, ↓kw2]
  repeat' (first | apply And.intro | intro _)
  all_goals
    refine ⟨_, rfl, done_pur rfl ?_⟩
    simp [can_0, *]
@[push_cast] def g133 : List AV → Option (Prop × AV)
  | [.agg [(.c (.int .i64 a)), (.c (.int .i64 b)), (.c (.int .i64 c))], .agg [(.c (.int .i64 x)), (.c (.int .i64 y)), (.c (.int .i64 z)), (.c (.int .i64 p)), (.c (.int .i64 q)), (.c (.int .i64 r))]] => some (True, .agg [I (can 0 a p x), I (can 0 b q y), I (can 0 c r z), I p, I q, I r])
  | _ => none
theorem g133_ok : ∀ args p, g133 args = some p → p.1 → Pur Tryz.prog GG 133 args p.2 := by
  intro args p hp hc
  unfold g133 at hp
  split at hp
  · cases hp
    exact told02 _ _ _ _ _ _ _ _ _
  · cases hp
@[push_cast] def Q7 : Tab := Tab.ext Q6 133 g133
theorem Q7_ok : TOk Tryz.prog GG Q7 := TOk.ext Q6_ok g133_ok
theorem e241 : Ent Tryz.prog 241 Tryz.f241 [] 3 := ⟨Tryz.func241, rfl, by decide, by kernel_rfl, by kernel_rfl, by decide, by kernel_rfl⟩
attribute [push_cast] Tryz.f241
set_option maxHeartbeats 4000000 in
set_option maxRecDepth 400000 in
theorem in02_pur {a b c x y z p q r m : Int} (hm : inM a b c m) (hb : okB a b c x y z p q r) : Pur Tryz.prog GG 241 [.agg [I a, I b, I c], .agg [I x, I y, I z, I p, I q, I r], I m] (B (inB a b c x y z p q r m)) := by
  have hd := hm.1
  have hb' := hb
  unfold okD at hd
  unfold okB ok1 at hb'
  unfold inB
  refine goQ e241 Q7_ok 0 ?_
  simp (maxSteps := 2000000) only [push_cast, seval, ↓kw2]
  repeat (first | refine ⟨hm, ?_⟩)
  generalize ofX a b c m = X
  generalize ofY a b c m = Y
  generalize ofZ a b c m = Z
  obtain ⟨rest, h0, h1, h2, h3⟩ : ∃ rest : Int → Bool, rest 0 = (axN a x X p.toNat && (axN b y Y q.toNat && axN c z Z r.toNat)) ∧ rest 1 = (axN b y Y q.toNat && axN c z Z r.toNat) ∧ rest 2 = axN c z Z r.toNat ∧ rest 3 = true :=
    ⟨fun i => if i = 0 then (axN a x X p.toNat && (axN b y Y q.toNat && axN c z Z r.toNat)) else if i = 1 then (axN b y Y q.toNat && axN c z Z r.toNat) else if i = 2 then axN c z Z r.toNat else true, rfl, rfl, rfl, rfl⟩
  rw [← h0]
  refine FW.loopInv (fun n ts H => ∃ i : Int, i + (n : Int) = 3 ∧ 0 ≤ i ∧ rest i = rest 0 ∧ H = [.cells [I a, I b, I c], .cells [I x, I y, I z, I p, I q, I r], .cells [I X, I Y, I Z]] ∧ ts 3 = .ptr 0 0 ∧ ts 4 = .ptr 1 0 ∧ ts 7 = .ptr 2 0 ∧ ts 8 = I i) 3
    ⟨0, by omega, by omega, rfl, rfl, rfl, rfl, rfl, rfl⟩ ?_
  rintro n ih ts H ⟨i, hi, hi0, hr, rfl, t3, t4, t7, t8⟩
  refine FW.inLoop ?_
  have hcs : i = 0 ∨ i = 1 ∨ i = 2 ∨ i = 3 := by omega
  rcases hcs with rfl | rfl | rfl | rfl
  · skip
    refine goN ?_
    simp (maxSteps := 2000000) only [push_cast, seval, ↓kw2, t3, t4, t7, t8]
    refine FW.loopInv (fun l ts H => ∃ k : Nat, k + l = (p).toNat ∧ H = [.cells [I a, I b, I c], .cells [I x, I y, I z, I p, I q, I r], .cells [I X, I Y, I Z]] ∧ ts 3 = .ptr 0 0 ∧ ts 4 = .ptr 1 0 ∧ ts 7 = .ptr 2 0 ∧ ts 8 = I 0 ∧ ts 9 = B (axN a x X k) ∧ ts 10 = I (k : Int)) (p).toNat
      ⟨0, by omega, rfl, t3, t4, t7, t8, rfl, rfl⟩ ?_
    clear t3 t4 t7 t8 ts
    rintro l ihl ts H ⟨k, hk, rfl, t3, t4, t7, t8, t9, t10⟩
    refine FW.inLoop ?_
    have w1 := wrapL (n := x + (k : Int)) (by omega) (by omega)
    have w2 := wrapL (n := (k : Int) + 1) (by omega) (by omega)
    have hn0 : ¬a = 0 := by omega
    have hsc := axN_succ a x X k
    by_cases hlt : (k : Int) < p
    · have d1 : decide ((k : Int) < p) = true := decide_eq_true hlt
      by_cases he : (x + (k : Int)).tmod a = X
      · have d2 : decide ((x + (k : Int)).tmod a = X) = true := decide_eq_true he
        rw [d2, Bool.or_true] at hsc
        refine goN ?_
        simp (maxSteps := 2000000) only [push_cast, seval, ↓kw2, t3, t4, t7, t8, t9, t10, w1, w2, d1, d2]
        repeat (first | refine ⟨hn0, ?_⟩ | refine And.intro (by omega) ?_)
        exact ihl (l - 1) (by omega) _ _ ⟨k + 1, by omega, rfl, t3, t4, t7, t8, by rw [hsc]; rfl, rfl⟩
      · have d2 : decide ((x + (k : Int)).tmod a = X) = false := decide_eq_false he
        rw [d2, Bool.or_false] at hsc
        refine goN ?_
        simp (maxSteps := 2000000) only [push_cast, seval, ↓kw2, t3, t4, t7, t8, t9, t10, w1, w2, d1, d2]
        repeat (first | refine ⟨hn0, ?_⟩ | refine And.intro (by omega) ?_)
        exact ihl (l - 1) (by omega) _ _ ⟨k + 1, by omega, rfl, t3, t4, t7, t8, by rw [hsc]; exact t9, rfl⟩
    · have d1 : decide ((k : Int) < p) = false := decide_eq_false hlt
      have hke : k = (p).toNat := by omega
      subst hke
      have hrs : rest 0 = (axN a x X (p).toNat && rest 1) := by simp [h0, h1, h2, h3]
      cases hx : axN a x X (p).toNat
      · rw [hx] at t9
        rw [hx, Bool.false_and] at hrs
        refine goN ?_
        simp (maxSteps := 2000000) only [push_cast, seval, ↓kw2, t3, t4, t7, t8, t9, t10, d1]
        exact ⟨_, rfl, done_pur rfl (by rw [← hr, hrs])⟩
      · rw [hx] at t9
        rw [hx, Bool.true_and] at hrs
        refine goN ?_
        simp (maxSteps := 2000000) only [push_cast, seval, ↓kw2, t3, t4, t7, t8, t9, t10, d1]
        exact ih (n - 1) (by omega) _ _ ⟨1, by omega, by omega, hrs.symm.trans hr, rfl, t3, t4, t7, rfl⟩
  · skip
    refine goN ?_
    simp (maxSteps := 2000000) only [push_cast, seval, ↓kw2, t3, t4, t7, t8]
    refine FW.loopInv (fun l ts H => ∃ k : Nat, k + l = (q).toNat ∧ H = [.cells [I a, I b, I c], .cells [I x, I y, I z, I p, I q, I r], .cells [I X, I Y, I Z]] ∧ ts 3 = .ptr 0 0 ∧ ts 4 = .ptr 1 0 ∧ ts 7 = .ptr 2 0 ∧ ts 8 = I 1 ∧ ts 9 = B (axN b y Y k) ∧ ts 10 = I (k : Int)) (q).toNat
      ⟨0, by omega, rfl, t3, t4, t7, t8, rfl, rfl⟩ ?_
    clear t3 t4 t7 t8 ts
    rintro l ihl ts H ⟨k, hk, rfl, t3, t4, t7, t8, t9, t10⟩
    refine FW.inLoop ?_
    have w1 := wrapL (n := y + (k : Int)) (by omega) (by omega)
    have w2 := wrapL (n := (k : Int) + 1) (by omega) (by omega)
    have hn0 : ¬b = 0 := by omega
    have hsc := axN_succ b y Y k
    by_cases hlt : (k : Int) < q
    · have d1 : decide ((k : Int) < q) = true := decide_eq_true hlt
      by_cases he : (y + (k : Int)).tmod b = Y
      · have d2 : decide ((y + (k : Int)).tmod b = Y) = true := decide_eq_true he
        rw [d2, Bool.or_true] at hsc
        refine goN ?_
        simp (maxSteps := 2000000) only [push_cast, seval, ↓kw2, t3, t4, t7, t8, t9, t10, w1, w2, d1, d2]
        repeat (first | refine ⟨hn0, ?_⟩ | refine And.intro (by omega) ?_)
        exact ihl (l - 1) (by omega) _ _ ⟨k + 1, by omega, rfl, t3, t4, t7, t8, by rw [hsc]; rfl, rfl⟩
      · have d2 : decide ((y + (k : Int)).tmod b = Y) = false := decide_eq_false he
        rw [d2, Bool.or_false] at hsc
        refine goN ?_
        simp (maxSteps := 2000000) only [push_cast, seval, ↓kw2, t3, t4, t7, t8, t9, t10, w1, w2, d1, d2]
        repeat (first | refine ⟨hn0, ?_⟩ | refine And.intro (by omega) ?_)
        exact ihl (l - 1) (by omega) _ _ ⟨k + 1, by omega, rfl, t3, t4, t7, t8, by rw [hsc]; exact t9, rfl⟩
    · have d1 : decide ((k : Int) < q) = false := decide_eq_false hlt
      have hke : k = (q).toNat := by omega
      subst hke
      have hrs : rest 1 = (axN b y Y (q).toNat && rest 2) := by simp [h0, h1, h2, h3]
      cases hx : axN b y Y (q).toNat
      · rw [hx] at t9
        rw [hx, Bool.false_and] at hrs
        refine goN ?_
        simp (maxSteps := 2000000) only [push_cast, seval, ↓kw2, t3, t4, t7, t8, t9, t10, d1]
        exact ⟨_, rfl, done_pur rfl (by rw [← hr, hrs])⟩
      · rw [hx] at t9
        rw [hx, Bool.true_and] at hrs
        refine goN ?_
        simp (maxSteps := 2000000) only [push_cast, seval, ↓kw2, t3, t4, t7, t8, t9, t10, d1]
        exact ih (n - 1) (by omega) _ _ ⟨2, by omega, by omega, hrs.symm.trans hr, rfl, t3, t4, t7, rfl⟩
  · skip
    refine goN ?_
    simp (maxSteps := 2000000) only [push_cast, seval, ↓kw2, t3, t4, t7, t8]
    refine FW.loopInv (fun l ts H => ∃ k : Nat, k + l = (r).toNat ∧ H = [.cells [I a, I b, I c], .cells [I x, I y, I z, I p, I q, I r], .cells [I X, I Y, I Z]] ∧ ts 3 = .ptr 0 0 ∧ ts 4 = .ptr 1 0 ∧ ts 7 = .ptr 2 0 ∧ ts 8 = I 2 ∧ ts 9 = B (axN c z Z k) ∧ ts 10 = I (k : Int)) (r).toNat
      ⟨0, by omega, rfl, t3, t4, t7, t8, rfl, rfl⟩ ?_
    clear t3 t4 t7 t8 ts
    rintro l ihl ts H ⟨k, hk, rfl, t3, t4, t7, t8, t9, t10⟩
    refine FW.inLoop ?_
    have w1 := wrapL (n := z + (k : Int)) (by omega) (by omega)
    have w2 := wrapL (n := (k : Int) + 1) (by omega) (by omega)
    have hn0 : ¬c = 0 := by omega
    have hsc := axN_succ c z Z k
    by_cases hlt : (k : Int) < r
    · have d1 : decide ((k : Int) < r) = true := decide_eq_true hlt
      by_cases he : (z + (k : Int)).tmod c = Z
      · have d2 : decide ((z + (k : Int)).tmod c = Z) = true := decide_eq_true he
        rw [d2, Bool.or_true] at hsc
        refine goN ?_
        simp (maxSteps := 2000000) only [push_cast, seval, ↓kw2, t3, t4, t7, t8, t9, t10, w1, w2, d1, d2]
        repeat (first | refine ⟨hn0, ?_⟩ | refine And.intro (by omega) ?_)
        exact ihl (l - 1) (by omega) _ _ ⟨k + 1, by omega, rfl, t3, t4, t7, t8, by rw [hsc]; rfl, rfl⟩
      · have d2 : decide ((z + (k : Int)).tmod c = Z) = false := decide_eq_false he
        rw [d2, Bool.or_false] at hsc
        refine goN ?_
        simp (maxSteps := 2000000) only [push_cast, seval, ↓kw2, t3, t4, t7, t8, t9, t10, w1, w2, d1, d2]
        repeat (first | refine ⟨hn0, ?_⟩ | refine And.intro (by omega) ?_)
        exact ihl (l - 1) (by omega) _ _ ⟨k + 1, by omega, rfl, t3, t4, t7, t8, by rw [hsc]; exact t9, rfl⟩
    · have d1 : decide ((k : Int) < r) = false := decide_eq_false hlt
      have hke : k = (r).toNat := by omega
      subst hke
      have hrs : rest 2 = (axN c z Z (r).toNat && rest 3) := by simp [h0, h1, h2, h3]
      cases hx : axN c z Z (r).toNat
      · rw [hx] at t9
        rw [hx, Bool.false_and] at hrs
        refine goN ?_
        simp (maxSteps := 2000000) only [push_cast, seval, ↓kw2, t3, t4, t7, t8, t9, t10, d1]
        exact ⟨_, rfl, done_pur rfl (by rw [← hr, hrs])⟩
      · rw [hx] at t9
        rw [hx, Bool.true_and] at hrs
        refine goN ?_
        simp (maxSteps := 2000000) only [push_cast, seval, ↓kw2, t3, t4, t7, t8, t9, t10, d1]
        exact ih (n - 1) (by omega) _ _ ⟨3, by omega, by omega, hrs.symm.trans hr, rfl, t3, t4, t7, rfl⟩
  · skip
    refine goN ?_
    simp (maxSteps := 2000000) only [push_cast, seval, ↓kw2, t3, t4, t7, t8]
    exact ⟨_, rfl, done_pur rfl (by rw [← hr, h3])⟩
def boxN (a b c x y z p q r : Int) (k : Nat) : List Int := ((List.range k).map Int.ofNat).filter fun m => inB a b c x y z p q r m
theorem boxN_succ (a b c x y z p q r : Int) (k : Nat) : boxN a b c x y z p q r (k + 1) = boxN a b c x y z p q r k ++ if inB a b c x y z p q r (k : Int) = true then [(k : Int)] else [] := by
  unfold boxN
  rw [List.range_succ, List.map_append, List.filter_append]
  congr 1
  by_cases hb : inB a b c x y z p q r (k : Int) = true <;> simp [hb]
theorem boxN_len (a b c x y z p q r : Int) (k : Nat) : (boxN a b c x y z p q r k).length ≤ k := by
  unfold boxN
  refine Nat.le_trans (List.length_filter_le _ _) ?_
  simp
theorem e201 : Ent Tryz.prog 201 Tryz.f201 [] 2 := ⟨Tryz.func201, rfl, by decide, by kernel_rfl, by kernel_rfl, by decide, by kernel_rfl⟩
attribute [push_cast] Tryz.f201
set_option maxHeartbeats 4000000 in
set_option maxRecDepth 400000 in
theorem all02_pur {a b c x y z p q r : Int} (hd : okD a b c) (hb : okB a b c x y z p q r) : Pur Tryz.prog GG 201 [.agg [I a, I b, I c], .agg [I x, I y, I z, I p, I q, I r]] (frS ((boxL a b c x y z p q r).map IA)) := by
  have hmu := okD_mul hd
  have hN := n01 a b c hd
  refine goQ e201 TOk.nil 0 ?_
  simp (maxSteps := 2000000) only [push_cast, seval, ↓kw2]
  refine FW.loopInv (fun n ts H => ∃ (k : Nat) (o : AV), k + n = (a * b * c).toNat ∧ Own H o ((boxN a b c x y z p q r k).map IA) ∧ ownId o ≠ some 0 ∧ ownId o ≠ some 1 ∧ H[0]? = some (.cells [I a, I b, I c]) ∧ H[1]? = some (.cells [I x, I y, I z, I p, I q, I r]) ∧ ts 2 = .ptr 0 0 ∧ ts 3 = .ptr 1 0 ∧ ts 5 = o ∧ ts 6 = I (k : Int)) (a * b * c).toNat
    ⟨0, _, by omega, .nil, by simp [ownId], by simp [ownId], rfl, rfl, rfl, rfl, rfl, rfl⟩ ?_
  rintro n ih ts H ⟨k, o, hk, hown, ho0, ho1, m0, m1, t2, t3, t5, t6⟩
  refine FW.inLoop ?_
  have w2 := wrapL (n := (k : Int) + 1) (by omega) (by omega)
  have hsc := boxN_succ a b c x y z p q r k
  have hle := boxN_len a b c x y z p q r k
  by_cases hlt : (k : Int) < a * b * c
  · have d1 : decide ((k : Int) < a * b * c) = true := decide_eq_true hlt
    refine goN ?_
    simp (maxSteps := 2000000) only [push_cast, seval, ↓kw2, m0, m1, t2, t3, t5, t6]
    refine AC.pur hN ?_
    refine goN ?_
    simp (maxSteps := 2000000) only [push_cast, seval, ↓kw2, m0, m1, t2, t3, t5, t6, d1]
    refine AC.pur (in02_pur ⟨hd, by omega, hlt⟩ hb) ?_
    cases hin : inB a b c x y z p q r (k : Int)
    · rw [hin] at hsc
      refine goN ?_
      simp (maxSteps := 2000000) only [push_cast, seval, ↓kw2, m0, m1, t2, t3, t5, t6, w2]
      exact ih (n - 1) (by omega) _ _ ⟨k + 1, o, by omega, by rw [hsc]; simpa using hown, ho0, ho1, m0, m1, t2, t3, t5, rfl⟩
    · rw [hin, if_pos rfl] at hsc
      have hap := fun v => aApp1 (P := Tryz.prog) un56 un56 ze3 rfl by3 hown v
      have hl0 := lt_of_get m0
      have hl1 := lt_of_get m1
      refine goN ?_
      simp (maxSteps := 2000000) only [push_cast, seval, ↓kw2, m0, m1, t2, t3, t5, t6, w2, hap]
      refine ⟨apC_of (by rw [List.length_map]; omega) (by decide), ?_⟩
      exact ih (n - 1) (by omega) _ _ ⟨k + 1, _, by omega, by rw [hsc]; exact apI, ownNe (by omega), ownNe (by omega), (apH_get hl0 ho0).trans m0, (apH_get hl1 ho1).trans m1, t2, t3, rfl, rfl⟩
  · have d1 : decide ((k : Int) < a * b * c) = false := decide_eq_false hlt
    have hke : k = (a * b * c).toNat := by omega
    subst hke
    refine goN ?_
    simp (maxSteps := 2000000) only [push_cast, seval, ↓kw2, m0, m1, t2, t3, t5, t6]
    refine AC.pur hN ?_
    refine goN ?_
    simp (maxSteps := 2000000) only [push_cast, seval, ↓kw2, m0, m1, t2, t3, t5, t6, d1]
    exact ⟨_, rfl, hown.done (purL_map IA _ fun _ => rfl)⟩
end Go.Ab.Pd

set_option linter.unusedSimpArgs false
set_option linter.unusedVariables false
namespace Go.Ab.Pd
open Go.Proofs
theorem e292 : Ent Tryz.prog 292 Tryz.f292 [] 5 := ⟨Tryz.func292, rfl, by decide, by kernel_rfl, by kernel_rfl, by decide, by kernel_rfl⟩
attribute [push_cast] Tryz.f292
set_option maxHeartbeats 4000000 in
set_option maxRecDepth 400000 in
theorem among_pur {a b c k m : Int} (hk : 0 ≤ k ∧ k ≤ 2) (hm : inM a b c m) {N : Nat} (hN : N ≤ 16) (o : Int) : Pur Tryz.prog GG 292 [.agg [I a, I b, I c], I k, I m, I (N : Int), I o] (B (amongV a b c k m o N)) := by
  refine goQ e292 TOk.nil 0 ?_
  simp (maxSteps := 2000000) only [push_cast, seval, ↓kw2]
  refine FW.loopInv (fun n ts H => ∃ i : Nat, i + n = N ∧ amongV a b c k m o i = false ∧ H = [.cells [I a, I b, I c]] ∧ ts 1 = I k ∧ ts 2 = I m ∧ ts 3 = I (N : Int) ∧ ts 4 = I o ∧ ts 5 = .ptr 0 0 ∧ ts 11 = I (i : Int)) N
    ⟨0, by omega, rfl, rfl, rfl, rfl, rfl, rfl, rfl, rfl⟩ ?_
  rintro n ih ts H ⟨i, hi, hf, rfl, t1, t2, t3, t4, t5, t11⟩
  refine FW.inLoop ?_
  have w2 := wrapL (n := (i : Int) + 1) (by omega) (by omega)
  have hs := among_succ a b c k m o i
  rw [hf, Bool.false_or] at hs
  by_cases hlt : i < N
  · have d1 : decide ((i : Int) < (N : Int)) = true := decide_eq_true (by omega)
    refine goN ?_
    simp (maxSteps := 2000000) only [push_cast, seval, ↓kw2, t1, t2, t3, t4, t5, t11, d1]
    refine AC.pur (on01 hk hm (i : Int)) ?_
    by_cases he : stV a b c m k (i : Int) = o
    · have d2 : decide (stV a b c m k (i : Int) = o) = true := decide_eq_true he
      rw [d2] at hs
      refine goN ?_
      simp (maxSteps := 2000000) only [push_cast, seval, ↓kw2, t1, t2, t3, t4, t5, t11, d2]
      refine ⟨_, rfl, done_pur rfl ?_⟩
      have : ∀ j : Nat, amongV a b c k m o (i + 1 + j) = true := fun j => by
        induction j with
        | zero => exact hs
        | succ j ihj => rw [← Nat.add_assoc, among_succ, ihj, Bool.true_or]
      have := this (N - (i + 1))
      rw [show i + 1 + (N - (i + 1)) = N by omega] at this
      rw [this]
    · have d2 : decide (stV a b c m k (i : Int) = o) = false := decide_eq_false he
      rw [d2] at hs
      refine goN ?_
      simp (maxSteps := 2000000) only [push_cast, seval, ↓kw2, t1, t2, t3, t4, t5, t11, d2, w2]
      exact ih (n - 1) (by omega) _ _ ⟨i + 1, by omega, hs, rfl, t1, t2, t3, t4, t5, rfl⟩
  · have d1 : decide ((i : Int) < (N : Int)) = false := decide_eq_false (by omega)
    have : i = N := by omega
    subst this
    refine goN ?_
    simp (maxSteps := 2000000) only [push_cast, seval, ↓kw2, t1, t2, t3, t4, t5, t11, d1]
    exact ⟨_, rfl, done_pur rfl (by rw [hf])⟩
def takN (a b c k m : Int) (N i : Nat) : List Int := (((List.range i).map Int.ofNat).filter fun o => amongV a b c k m o N).map fun o => k * (a * b * c) + o
theorem takN_succ (a b c k m : Int) (N i : Nat) : takN a b c k m N (i + 1) = takN a b c k m N i ++ if amongV a b c k m (i : Int) N = true then [k * (a * b * c) + (i : Int)] else [] := by
  unfold takN
  rw [List.range_succ, List.map_append, List.filter_append, List.map_append]
  congr 1
  by_cases hb : amongV a b c k m (i : Int) N = true <;> simp [hb]
theorem takN_len (a b c k m : Int) (N i : Nat) : (takN a b c k m N i).length ≤ i := by
  unfold takN
  rw [List.length_map]
  refine Nat.le_trans (List.length_filter_le _ _) ?_
  simp
theorem taken_is (a b c k m : Int) (N : Nat) : takenL a b c k m N = if 1 < dimV a b c k then takN a b c k m N (a * b * c).toNat else [] := rfl
theorem e273 : Ent Tryz.prog 273 Tryz.f273 [] 4 := ⟨Tryz.func273, rfl, by decide, by kernel_rfl, by kernel_rfl, by decide, by kernel_rfl⟩
attribute [push_cast] Tryz.f273
set_option maxHeartbeats 4000000 in
set_option maxRecDepth 400000 in
theorem taken05 {a b c k m : Int} (hk : 0 ≤ k ∧ k ≤ 2) (hm : inM a b c m) {N : Nat} (hN : N ≤ 16) : Pur Tryz.prog GG 273 [.agg [I a, I b, I c], I k, I m, I (N : Int)] (frS ((takenL a b c k m N).map IA)) := by
  have hd := hm.1
  have hmu := okD_mul hd
  have hN1 := n01 a b c hd
  have hkm0 : 0 ≤ k * (a * b * c) := Int.mul_nonneg (by omega) (by omega)
  have hkm1 : k * (a * b * c) ≤ 2 * (a * b * c) := Int.mul_le_mul_of_nonneg_right (by omega) (by omega)
  have w0 := wrapL (n := k * (a * b * c)) (by omega) (by omega)
  have hpos : 0 < a * b * c := by have := hm.2; omega
  rw [taken_is]
  refine goQ e273 TOk.nil 0 ?_
  simp (maxSteps := 2000000) only [push_cast, seval, ↓kw2]
  refine AC.pur hN1 ?_
  refine goN ?_
  simp (maxSteps := 2000000) only [push_cast, seval, ↓kw2]
  by_cases h1 : 1 < dimV a b c k
  · rw [if_pos h1]
    refine FW.loopInv (fun n ts H => ∃ (i : Nat) (o : AV), i + n = (a * b * c).toNat ∧ Own H o ((takN a b c k m N i).map IA) ∧ ownId o ≠ some 0 ∧ H[0]? = some (.cells [I a, I b, I c]) ∧ ts 1 = I k ∧ ts 2 = I m ∧ ts 3 = I (N : Int) ∧ ts 4 = .ptr 0 0 ∧ ts 9 = o ∧ ts 10 = I (a * b * c) ∧ ts 11 = I (i : Int)) (a * b * c).toNat
      ⟨0, _, by omega, .nil, by simp [ownId], rfl, rfl, rfl, rfl, rfl, rfl, rfl, rfl⟩ ?_
    rintro n ih ts H ⟨i, o, hi, hown, ho0, m0, t1, t2, t3, t4, t9, t10, t11⟩
    refine FW.inLoop ?_
    have w2 := wrapL (n := (i : Int) + 1) (by omega) (by omega)
    have w3 := wrapL (n := k * (a * b * c) + (i : Int)) (by omega) (by omega)
    have hsc := takN_succ a b c k m N i
    have hle := takN_len a b c k m N i
    have hAm := among_pur hk hm hN (i : Int)
    have hap := fun v => aApp1 (P := Tryz.prog) un56 un56 ze3 rfl by3 hown v
    have hl0 := lt_of_get m0
    have d0 := decide_eq_true h1
    by_cases hlt : (i : Int) < a * b * c
    · have d1 : decide ((i : Int) < a * b * c) = true := decide_eq_true hlt
      have hcs : k = 0 ∨ k = 1 ∨ k = 2 := by omega
      rcases hcs with rfl | rfl | rfl
      all_goals
        simp only [dimV, if_true, if_neg (by decide : ¬(1 : Int) = 0), if_neg (by decide : ¬(2 : Int) = 0), if_neg (by decide : ¬(2 : Int) = 1)] at d0
        refine goN ?_
        simp (maxSteps := 2000000) only [push_cast, seval, ↓kw2, m0, t1, t2, t3, t4, t9, t10, t11, d1, d0]
        refine AC.pur hAm ?_
        cases hin : amongV a b c _ m (i : Int) N
        · rw [hin] at hsc
          refine goN ?_
          simp (maxSteps := 2000000) only [push_cast, seval, ↓kw2, m0, t1, t2, t3, t4, t9, t10, t11, w2]
          exact ih (n - 1) (by omega) _ _ ⟨i + 1, o, by omega, by rw [hsc]; simpa using hown, ho0, m0, t1, t2, t3, t4, t9, t10, rfl⟩
        · rw [hin, if_pos rfl] at hsc
          refine goN ?_
          simp (maxSteps := 2000000) only [push_cast, seval, ↓kw2, m0, t1, t2, t3, t4, t9, t10, t11, w0, w2, w3, hap]
          refine ⟨apC_of (by rw [List.length_map]; omega) (by decide), ?_⟩
          exact ih (n - 1) (by omega) _ _ ⟨i + 1, _, by omega, by rw [hsc]; exact apI, ownNe (by omega), (apH_get hl0 ho0).trans m0, t1, t2, t3, t4, rfl, t10, rfl⟩
    · have d1 : decide ((i : Int) < a * b * c) = false := decide_eq_false hlt
      have hke : i = (a * b * c).toNat := by omega
      subst hke
      refine goN ?_
      simp (maxSteps := 2000000) only [push_cast, seval, ↓kw2, m0, t1, t2, t3, t4, t9, t10, t11, d1]
      exact ⟨_, rfl, hown.done (purL_map IA _ fun _ => rfl)⟩
  · rw [if_neg h1]
    have d0 := decide_eq_false h1
    have d1 : decide (0 < a * b * c) = true := decide_eq_true hpos
    have hcs : k = 0 ∨ k = 1 ∨ k = 2 := by omega
    refine FW.inLoop ?_
    rcases hcs with rfl | rfl | rfl
    all_goals
      simp only [dimV, if_true, if_neg (by decide : ¬(1 : Int) = 0), if_neg (by decide : ¬(2 : Int) = 0), if_neg (by decide : ¬(2 : Int) = 1)] at d0
      refine goN ?_
      simp (maxSteps := 2000000) only [push_cast, seval, ↓kw2, d1, d0]
      exact ⟨_, rfl, done_pur rfl rfl⟩
theorem e242 : Ent Tryz.prog 242 Tryz.f242 [] 5 := ⟨Tryz.func242, rfl, by decide, by kernel_rfl, by kernel_rfl, by decide, by kernel_rfl⟩
attribute [push_cast] Tryz.f242
set_option maxHeartbeats 4000000 in
set_option maxRecDepth 400000 in
theorem took05 {a b c k m s : Int} (t : Bool) (hk : 0 ≤ k ∧ k ≤ 2) (hm : inM a b c m) (hs : 1 ≤ s ∧ s ≤ dimV a b c k) : Pur Tryz.prog GG 242 [.agg [I a, I b, I c], I k, I m, I s, B t] (frS ((tookL a b c k m s t).map IA)) := by
  have hdim := dimV_in (k := k) hm.1
  unfold tookL
  by_cases h1 : s = 1
  · have d1 : decide (s = 1) = true := decide_eq_true h1
    rw [if_pos h1]
    refine goQ e242 TOk.nil 0 ?_
    simp (maxSteps := 2000000) only [push_cast, seval, ↓kw2, d1]
    exact ⟨_, rfl, done_pur rfl rfl⟩
  · have d1 : decide (s = 1) = false := decide_eq_false h1
    rw [if_neg h1]
    have w1 := wrapL (n := s - 1) (by omega) (by omega)
    have hT := taken05 hk hm (N := (runN (dimV a b c k) s t).toNat) (by unfold runN; split <;> omega)
    have hpur : ∀ l : List Int, (frS (l.map IA)).pur = true := fun l => frS_pur (purL_map IA _ fun _ => rfl)
    cases t
    · rw [show (((runN (dimV a b c k) s false).toNat : Nat) : Int) = s - 1 by unfold runN; rw [if_neg (by decide)]; omega] at hT
      refine goQ e242 TOk.nil 0 ?_
      simp (maxSteps := 2000000) only [push_cast, seval, ↓kw2, d1, w1]
      refine AC.pur hT ?_
      refine goN ?_
      simp (maxSteps := 2000000) only [push_cast, seval, ↓kw2]
      exact ⟨_, rfl, done_pur (hpur _) rfl⟩
    · rw [show (((runN (dimV a b c k) s true).toNat : Nat) : Int) = dimV a b c k by unfold runN; rw [if_pos rfl]; omega] at hT
      have key : ∀ dd, dd = dimV a b c k → Pur Tryz.prog GG 273 [.agg [I a, I b, I c], I k, I m, I dd] (frS ((takenL a b c k m (runN (dimV a b c k) s true).toNat).map IA)) := fun dd e => by rw [e]; exact hT
      have hcs : k = 0 ∨ k = 1 ∨ k = 2 := by omega
      rcases hcs with rfl | rfl | rfl
      all_goals
        refine goQ e242 TOk.nil 0 ?_
        simp (maxSteps := 2000000) only [push_cast, seval, ↓kw2, d1, w1]
        refine ⟨_, toVP (key _ rfl), ?_⟩
        exact ⟨_, rfl, done_pur (hpur _) rfl⟩
end Go.Ab.Pd

set_option linter.unusedSimpArgs false
set_option linter.unusedVariables false
namespace Go.Ab.Pd
open Go.Proofs
theorem e101 : Ent Tryz.prog 101 Tryz.f101 [] 2 := ⟨Tryz.func101, rfl, by decide, by kernel_rfl, by kernel_rfl, by decide, by kernel_rfl⟩
attribute [push_cast] Tryz.f101
set_option maxHeartbeats 4000000 in
set_option maxRecDepth 400000 in
theorem may06 (a b c x y z p q r : Int) (s t u : Bool) (hd : okD a b c) : Pur Tryz.prog GG 101 [.agg [I a, I b, I c], .agg [I x, I y, I z, I p, I q, I r, B s, B t, B u]] (B (decide (okPl a b c x y z p q r s t u))) := by
  refine goQ e101 Q7_ok 0 ?_
  simp (maxSteps := 2000000) only [push_cast, seval, ↓kw2]
  refine FW.loopInv (fun n ts H => ∃ i : Int, i + (n : Int) = 3 ∧ 0 ≤ i ∧ (0 < i → s = true → ¬p = 1) ∧ (1 < i → t = true → ¬q = 1) ∧ (2 < i → u = true → ¬r = 1) ∧ H = [.cells [I a, I b, I c], .cells [I x, I y, I z, I p, I q, I r, B s, B t, B u]] ∧ ts 2 = .ptr 0 0 ∧ ts 3 = .ptr 1 0 ∧ ts 5 = I i) 3
    ⟨0, by omega, by omega, fun h => by omega, fun h => by omega, fun h => by omega, rfl, rfl, rfl, rfl⟩ ?_
  rintro n ih ts H ⟨i, hi, hi0, k1, k2, k3, rfl, t2, t3, t5⟩
  refine FW.inLoop ?_
  have hcs : i = 0 ∨ i = 1 ∨ i = 2 ∨ i = 3 := by omega
  rcases hcs with rfl | rfl | rfl | rfl
  · cases s
    · skip
      refine goW Q7_ok [] 0 ?_
      simp (maxSteps := 2000000) only [push_cast, seval, ↓kw2, t2, t3, t5]
      refine ih (n - 1) (by omega) _ _ ⟨1, by omega, by omega, ?_, ?_, ?_, rfl, t2, t3, rfl⟩
      all_goals
        intro h1 h2
        first | exact absurd h1 (by decide) | (cases h2; done) | exact k1 (by decide) h2 | exact k2 (by decide) h2
    · by_cases he : p = 1
      · have d1 : decide (p = 1) = true := decide_eq_true he
        refine goW Q7_ok [] 0 ?_
        simp (maxSteps := 2000000) only [push_cast, seval, ↓kw2, t2, t3, t5, d1]
        refine ⟨_, rfl, done_pur rfl ?_⟩
        rw [decide_eq_false]
        intro hq
        obtain ⟨_, _, q1, q2, q3, _⟩ := hq
        first | exact q1 rfl he | exact q2 rfl he | exact q3 rfl he
      · have d1 : decide (p = 1) = false := decide_eq_false he
        refine goW Q7_ok [] 0 ?_
        simp (maxSteps := 2000000) only [push_cast, seval, ↓kw2, t2, t3, t5, d1]
        refine ih (n - 1) (by omega) _ _ ⟨1, by omega, by omega, ?_, ?_, ?_, rfl, t2, t3, rfl⟩
        all_goals
          intro h1 h2
          first | exact absurd h1 (by decide) | exact he | exact k1 (by decide) h2 | exact k2 (by decide) h2
  · cases t
    · skip
      refine goW Q7_ok [] 0 ?_
      simp (maxSteps := 2000000) only [push_cast, seval, ↓kw2, t2, t3, t5]
      refine ih (n - 1) (by omega) _ _ ⟨2, by omega, by omega, ?_, ?_, ?_, rfl, t2, t3, rfl⟩
      all_goals
        intro h1 h2
        first | exact absurd h1 (by decide) | (cases h2; done) | exact k1 (by decide) h2 | exact k2 (by decide) h2
    · by_cases he : q = 1
      · have d1 : decide (q = 1) = true := decide_eq_true he
        refine goW Q7_ok [] 0 ?_
        simp (maxSteps := 2000000) only [push_cast, seval, ↓kw2, t2, t3, t5, d1]
        refine ⟨_, rfl, done_pur rfl ?_⟩
        rw [decide_eq_false]
        intro hq
        obtain ⟨_, _, q1, q2, q3, _⟩ := hq
        first | exact q1 rfl he | exact q2 rfl he | exact q3 rfl he
      · have d1 : decide (q = 1) = false := decide_eq_false he
        refine goW Q7_ok [] 0 ?_
        simp (maxSteps := 2000000) only [push_cast, seval, ↓kw2, t2, t3, t5, d1]
        refine ih (n - 1) (by omega) _ _ ⟨2, by omega, by omega, ?_, ?_, ?_, rfl, t2, t3, rfl⟩
        all_goals
          intro h1 h2
          first | exact absurd h1 (by decide) | exact he | exact k1 (by decide) h2 | exact k2 (by decide) h2
  · cases u
    · skip
      refine goW Q7_ok [] 0 ?_
      simp (maxSteps := 2000000) only [push_cast, seval, ↓kw2, t2, t3, t5]
      refine ih (n - 1) (by omega) _ _ ⟨3, by omega, by omega, ?_, ?_, ?_, rfl, t2, t3, rfl⟩
      all_goals
        intro h1 h2
        first | exact absurd h1 (by decide) | (cases h2; done) | exact k1 (by decide) h2 | exact k2 (by decide) h2
    · by_cases he : r = 1
      · have d1 : decide (r = 1) = true := decide_eq_true he
        refine goW Q7_ok [] 0 ?_
        simp (maxSteps := 2000000) only [push_cast, seval, ↓kw2, t2, t3, t5, d1]
        refine ⟨_, rfl, done_pur rfl ?_⟩
        rw [decide_eq_false]
        intro hq
        obtain ⟨_, _, q1, q2, q3, _⟩ := hq
        first | exact q1 rfl he | exact q2 rfl he | exact q3 rfl he
      · have d1 : decide (r = 1) = false := decide_eq_false he
        refine goW Q7_ok [] 0 ?_
        simp (maxSteps := 2000000) only [push_cast, seval, ↓kw2, t2, t3, t5, d1]
        refine ih (n - 1) (by omega) _ _ ⟨3, by omega, by omega, ?_, ?_, ?_, rfl, t2, t3, rfl⟩
        all_goals
          intro h1 h2
          first | exact absurd h1 (by decide) | exact he | exact k1 (by decide) h2 | exact k2 (by decide) h2
  · have k1 := k1 (by omega)
    have k2 := k2 (by omega)
    have k3 := k3 (by omega)
    by_cases hb : okB a b c x y z p q r
    · have d1 := decide_eq_true hb
      refine goW Q7_ok [] 0 ?_
      simp (maxSteps := 2000000) only [push_cast, seval, ↓kw2, t2, t3, t5, d1, eqBox', aBinAgg]
      refine ⟨_, rfl, done_pur rfl ?_⟩
      exact congrArg (fun q => AV.c (Value.bool q)) (decide_eq_decide.2 (by
        rw [can_iff, can_iff, can_iff]
        exact ⟨fun ht => ⟨hd, hb, k1, k2, k3, ht⟩, fun hq => hq.2.2.2.2.2⟩))
    · have d1 := decide_eq_false hb
      refine goW Q7_ok [] 0 ?_
      simp (maxSteps := 2000000) only [push_cast, seval, ↓kw2, t2, t3, t5, d1, eqBox', aBinAgg]
      refine ⟨_, rfl, done_pur rfl ?_⟩
      rw [decide_eq_false fun h => hb h.2.1]
def gmay06 : List AV → Option (Prop × AV)
  | [.agg [.c (.int .i64 a), .c (.int .i64 b), .c (.int .i64 c)], .agg [.c (.int .i64 x), .c (.int .i64 y), .c (.int .i64 z), .c (.int .i64 p), .c (.int .i64 q), .c (.int .i64 r), .c (.bool s), .c (.bool t), .c (.bool u)]] => some (okD a b c, B (decide (okPl a b c x y z p q r s t u)))
  | _ => none
theorem gmay06_ok : ∀ args p, gmay06 args = some p → p.1 → Pur Tryz.prog GG 101 args p.2 := by
  intro args p hp hc
  unfold gmay06 at hp
  split at hp
  · cases hp
    exact may06 _ _ _ _ _ _ _ _ _ _ _ _ hc
  · cases hp
attribute [push_cast] gmay06
@[push_cast] def Q8 : Tab := Tab.ext Q7 101 gmay06
theorem Q8_ok : TOk Tryz.prog GG Q8 := TOk.ext Q7_ok gmay06_ok
theorem e43 : Ent Tryz.prog 43 Tryz.f43 [] 2 := ⟨Tryz.func43, rfl, by decide, by kernel_rfl, by kernel_rfl, by decide, by kernel_rfl⟩
attribute [push_cast] Tryz.f43
set_option maxHeartbeats 4000000 in
set_option maxRecDepth 400000 in
theorem check06 (a b c x y z p q r : Int) (s t u : Bool) : Pur Tryz.prog GG 43 [.agg [I a, I b, I c], .agg [I x, I y, I z, I p, I q, I r, B s, B t, B u]] (I (pchk a b c x y z p q r s t u)) := by
  refine goQ e43 Q8_ok 0 ?_
  simp (maxSteps := 2000000) only [push_cast, seval, ↓kw2, gdK_var]
  refine ⟨fun h => ?_, fun h => ?_⟩
  · have hd : ¬okD a b c := by simpa using h
    exact ⟨_, rfl, done_pur rfl (by rw [pchk, ckB, if_neg hd, if_neg (by decide)])⟩
  · have hd : okD a b c := by simpa using h
    refine ⟨hd, fun h2 => ?_, fun h2 => ?_⟩
    · have hp : ¬okPl a b c x y z p q r s t u := by simpa using h2
      refine ⟨_, rfl, done_pur rfl ?_⟩
      rw [pchk, ckB, if_pos hd]
      by_cases hb' : okB a b c x y z p q r
      · rw [if_pos hb', if_pos rfl, if_neg hp]
      · rw [if_neg hb', if_neg (by decide)]
    · have hp : okPl a b c x y z p q r s t u := by simpa using h2
      have hb : ckB a b c x y z p q r = 0 := by rw [ckB, if_pos hd, if_pos hp.2.1]
      exact ⟨_, rfl, done_pur rfl (by rw [pchk, if_pos hb, if_pos hp])⟩
@[push_cast] def g43 : List AV → Option (Prop × AV)
  | [.agg [(.c (.int .i64 a)), (.c (.int .i64 b)), (.c (.int .i64 c))], .agg [(.c (.int .i64 x)), (.c (.int .i64 y)), (.c (.int .i64 z)), (.c (.int .i64 p)), (.c (.int .i64 q)), (.c (.int .i64 r)), (.c (.bool s)), (.c (.bool t)), (.c (.bool u))]] => some (True, I (pchk a b c x y z p q r s t u))
  | _ => none
theorem g43_ok : ∀ args p, g43 args = some p → p.1 → Pur Tryz.prog GG 43 args p.2 := by
  intro args p hp hc
  unfold g43 at hp
  split at hp
  · cases hp
    exact check06 _ _ _ _ _ _ _ _ _ _ _ _
  · cases hp
@[push_cast] def Q9 : Tab := Tab.ext Q8 43 g43
theorem Q9_ok : TOk Tryz.prog GG Q9 := TOk.ext Q8_ok g43_ok
theorem flat_le2 {α β : Type} {f : α → List β} {k : Nat} : ∀ {l : List α}, (∀ x ∈ l, (f x).length ≤ k) → (l.flatMap f).length ≤ l.length * k
  | [], _ => by simp
  | x :: l, h => by
    have h1 := h x (by simp)
    have h2 := flat_le2 fun y hy => h y (List.mem_cons_of_mem x hy)
    rw [List.flatMap_cons, List.length_append, List.length_cons, Nat.add_mul]
    omega
theorem boxL_len {a b c : Int} (hd : okD a b c) (x y z p q r : Int) : (boxL a b c x y z p q r).length ≤ 4096 := by
  have := boxN_len a b c x y z p q r (a * b * c).toNat
  have hm := okD_mul hd
  exact Nat.le_trans this (by omega)
theorem tookL_len {a b c : Int} (hd : okD a b c) (k m s : Int) (t : Bool) : (tookL a b c k m s t).length ≤ 4096 := by
  have hm := okD_mul hd
  unfold tookL
  split
  · simp
  · rw [taken_is]
    split
    · exact Nat.le_trans (takN_len ..) (by omega)
    · simp
def cabF (a b c k base s : Int) (t : Bool) (l : List Int) : List Int := (l.filter fun m => decide (cooV a b c m k = base)).flatMap fun m => tookL a b c k m s t
theorem cabF_cons (a b c k base s : Int) (t : Bool) (m : Int) (l : List Int) : cabF a b c k base s t (m :: l) = (if cooV a b c m k = base then tookL a b c k m s t else []) ++ cabF a b c k base s t l := by
  unfold cabF
  rw [List.filter_cons]
  by_cases h : cooV a b c m k = base
  · rw [if_pos h, if_pos (decide_eq_true h), List.flatMap_cons]
  · rw [if_neg h, if_neg (by simp [h]), List.nil_append]
theorem cabF_len {a b c : Int} (hd : okD a b c) (k base s : Int) (t : Bool) (l : List Int) : (cabF a b c k base s t l).length ≤ l.length * 4096 := by
  unfold cabF
  refine Nat.le_trans (flat_le2 fun x _ => tookL_len hd k x s t) ?_
  exact Nat.mul_le_mul_right _ (List.length_filter_le _ _)
theorem cabL_len {a b c : Int} (hd : okD a b c) (x y z p q r : Int) (s t u : Bool) : (cabL a b c x y z p q r s t u).length ≤ 2 ^ 26 := by
  have h := boxL_len hd x y z p q r
  have h1 := cabF_len hd 0 x p s (boxL a b c x y z p q r)
  have h2 := cabF_len hd 1 y q t (boxL a b c x y z p q r)
  have h3 := cabF_len hd 2 z r u (boxL a b c x y z p q r)
  show ((cabF a b c 0 x p s (boxL a b c x y z p q r)) ++ ((cabF a b c 1 y q t (boxL a b c x y z p q r)) ++ (cabF a b c 2 z r u (boxL a b c x y z p q r)))).length ≤ _
  rw [List.length_append, List.length_append]
  omega
theorem e202 : Ent Tryz.prog 202 Tryz.f202 [] 2 := ⟨Tryz.func202, rfl, by decide, by kernel_rfl, by kernel_rfl, by decide, by kernel_rfl⟩
attribute [push_cast] Tryz.f202
set_option maxHeartbeats 4000000 in
set_option maxRecDepth 400000 in
theorem cables06 {a b c x y z p q r : Int} (s t u : Bool) (hd : okD a b c) (hb : okB a b c x y z p q r) : Pur Tryz.prog GG 202 [.agg [I a, I b, I c], .agg [I x, I y, I z, I p, I q, I r, B s, B t, B u]] (frS ((cabL a b c x y z p q r s t u).map IA)) := by
  have hA := all02_pur hd hb
  have hb' := hb
  unfold okB ok1 at hb'
  have hin : ∀ m ∈ boxL a b c x y z p q r, inM a b c m := fun m hm => nodes_mem hd hb ((boxL_mem hd hb).1 hm)
  have hbl := boxL_len hd x y z p q r
  have hcl := cabL_len hd x y z p q r s t u
  have hC : cabL a b c x y z p q r s t u = cabF a b c 0 x p s (boxL a b c x y z p q r) ++ (cabF a b c 1 y q t (boxL a b c x y z p q r) ++ cabF a b c 2 z r u (boxL a b c x y z p q r)) := rfl
  generalize cabL a b c x y z p q r s t u = C at hC hcl
  generalize boxL a b c x y z p q r = l at hA hin hbl hC
  have hL : IsSl (frS (l.map IA)) (l.map IA) := IsSl.frS _
  generalize frS (l.map IA) = sl at hA hL
  have hlen := hL.len (P := Tryz.prog) un56
  rw [List.length_map] at hlen
  have hidx := fun (i : Nat) (hi : i < l.length) (H : List AO) => hL.idx (P := Tryz.prog) un56 sz3 (i := (i : Int)) (by rw [List.length_map]; omega) (by omega) H
  obtain ⟨rest, h0, h1, h2, h3⟩ : ∃ rest : Int → List Int, rest 0 = C ∧ rest 1 = cabF a b c 1 y q t l ++ cabF a b c 2 z r u l ∧ rest 2 = cabF a b c 2 z r u l ∧ rest 3 = [] :=
    ⟨fun i => if i = 0 then C else if i = 1 then cabF a b c 1 y q t l ++ cabF a b c 2 z r u l else if i = 2 then cabF a b c 2 z r u l else [], rfl, rfl, rfl, rfl⟩
  refine goQ e202 TOk.nil 0 ?_
  simp (maxSteps := 2000000) only [push_cast, seval, ↓kw2]
  refine AC.pur hA ?_
  refine goN ?_
  simp (maxSteps := 2000000) only [push_cast, seval, ↓kw2]
  refine FW.loopInv (fun n ts H => ∃ (i : Int) (es : List Int) (o : AV), i + (n : Int) = 3 ∧ 0 ≤ i ∧ es ++ rest i = C ∧ Own H o (es.map IA) ∧ ownId o ≠ some 0 ∧ ownId o ≠ some 1 ∧ H[0]? = some (.cells [I a, I b, I c]) ∧ H[1]? = some (.cells [I x, I y, I z, I p, I q, I r, B s, B t, B u]) ∧ ts 2 = .ptr 0 0 ∧ ts 3 = .ptr 1 0 ∧ ts 5 = o ∧ ts 6 = sl ∧ ts 7 = I i) 3
    ⟨0, [], _, by omega, by omega, by rw [h0]; rfl, .nil, by simp [ownId], by simp [ownId], rfl, rfl, rfl, rfl, rfl, rfl, rfl⟩ ?_
  rintro n ih ts H ⟨i, es, o, hi, hi0, hes, hown, ho0, ho1, m0, m1, t2, t3, t5, t6, t7⟩
  refine FW.inLoop ?_
  have hcs : i = 0 ∨ i = 1 ∨ i = 2 ∨ i = 3 := by omega
  rcases hcs with rfl | rfl | rfl | rfl
  · have hrs : rest 0 = cabF a b c 0 x p s l ++ rest 1 := by simp [h0, h1, h2, h3, hC]
    rw [hrs] at hes
    refine goN ?_
    simp (maxSteps := 2000000) only [push_cast, seval, ↓kw2, m0, m1, t2, t3, t5, t6, t7]
    refine FW.loopInv (fun n ts H => ∃ (k : Nat) (es : List Int) (o : AV), k + n = l.length ∧ es ++ (cabF a b c 0 x p s (l.drop k) ++ rest 1) = C ∧ Own H o (es.map IA) ∧ ownId o ≠ some 0 ∧ ownId o ≠ some 1 ∧ H[0]? = some (.cells [I a, I b, I c]) ∧ H[1]? = some (.cells [I x, I y, I z, I p, I q, I r, B s, B t, B u]) ∧ ts 2 = .ptr 0 0 ∧ ts 3 = .ptr 1 0 ∧ ts 5 = o ∧ ts 6 = sl ∧ ts 7 = I 0 ∧ ts 8 = I (k : Int)) l.length
      ⟨0, es, o, by omega, hes, hown, ho0, ho1, m0, m1, t2, t3, t5, t6, t7, rfl⟩ ?_
    clear hes hown ho0 ho1 m0 m1 t2 t3 t5 t6 t7
    rintro l2 ihl ts H ⟨k, es, o, hk, hes, hown, ho0, ho1, m0, m1, t2, t3, t5, t6, t7, t8⟩
    refine FW.inLoop ?_
    have w2 := wrapL (n := (k : Int) + 1) (by omega) (by omega)
    have hl0 := lt_of_get m0
    have hl1 := lt_of_get m1
    by_cases hlt : k < l.length
    · have d1 : decide ((k : Int) < (l.length : Int)) = true := decide_eq_true (by omega)
      have hx := hidx k hlt
      simp only [Int.toNat_natCast] at hx
      rw [getD_map IA l 0 hlt] at hx
      have hmm := hin (l.getD k 0) (by simp [List.getD, hlt])
      rw [drop_cons 0 hlt, cabF_cons] at hes
      generalize l.getD k 0 = m at hx hmm hes
      have hbb : (0 ≤ (k : Int) ∧ (k : Int) < ((l.map IA).length : Int)) := ⟨by omega, by rw [List.length_map]; omega⟩
      have hW := where01 a b c m hmm
      by_cases he : cooV a b c m 0 = x
      · rw [if_pos he, List.append_assoc, ← List.append_assoc es] at hes
        have d2 := decide_eq_true he
        simp only [cooV, if_true, if_neg (by decide : ¬(1 : Int) = 0), if_neg (by decide : ¬(2 : Int) = 0), if_neg (by decide : ¬(2 : Int) = 1)] at d2
        have hT := took05 (k := 0) (s := p) s (by omega) hmm ⟨by omega, by simp only [dimV, if_true, if_neg (by decide : ¬(1 : Int) = 0), if_neg (by decide : ¬(2 : Int) = 0), if_neg (by decide : ¬(2 : Int) = 1)]; omega⟩
        have htl := len_le_of_append hes
        rw [List.length_append] at htl
        obtain ⟨CC, hap, hCC⟩ := aAppF (P := Tryz.prog) un56 un56 ze3 rfl by3 hown (l := (tookL a b c 0 m p s).map IA) (fun x hx => by obtain ⟨_, _, rfl⟩ := List.mem_map.1 hx; rfl)
        refine goN ?_
        simp (maxSteps := 2000000) only [push_cast, seval, ↓kw2, m0, m1, t2, t3, t5, t6, t7, t8, d1, d2, hlen, hx]
        repeat (first | refine ⟨hbb, ?_⟩)
        refine ⟨_, toVP hW, ?_⟩
        simp (maxSteps := 2000000) only [push_cast, seval, ↓kw2, m0, m1, t2, t3, t5, t6, t7, t8, d1, d2, hlen, hx]
        repeat (first | refine And.intro (by omega) ?_)
        refine ⟨_, toVP hT, ?_⟩
        simp (maxSteps := 2000000) only [push_cast, seval, ↓kw2, m0, m1, t2, t3, t5, t6, t7, t8, d1, d2, hlen, hx, hap, w2]
        refine ⟨hCC (by rw [List.length_map, List.length_map]; omega) (by rw [List.length_map, List.length_map]; omega), ?_⟩
        exact ihl (l2 - 1) (by omega) _ _ ⟨k + 1, es ++ tookL a b c 0 m p s, _, by omega, hes, by rw [List.map_append]; exact apSs_own hown, ownId_apSs hl0 ho0, ownId_apSs hl1 ho1, (apHs_get hl0 ho0).trans m0, (apHs_get hl1 ho1).trans m1, t2, t3, rfl, t6, t7, rfl⟩
      · rw [if_neg he, List.nil_append] at hes
        have d2 := decide_eq_false he
        simp only [cooV, if_true, if_neg (by decide : ¬(1 : Int) = 0), if_neg (by decide : ¬(2 : Int) = 0), if_neg (by decide : ¬(2 : Int) = 1)] at d2
        refine goN ?_
        simp (maxSteps := 2000000) only [push_cast, seval, ↓kw2, m0, m1, t2, t3, t5, t6, t7, t8, d1, d2, hlen, hx]
        repeat (first | refine ⟨hbb, ?_⟩)
        refine ⟨_, toVP hW, ?_⟩
        simp (maxSteps := 2000000) only [push_cast, seval, ↓kw2, m0, m1, t2, t3, t5, t6, t7, t8, d1, d2, hlen, hx, w2]
        repeat (first | refine And.intro (by omega) ?_)
        exact ihl (l2 - 1) (by omega) _ _ ⟨k + 1, es, o, by omega, hes, hown, ho0, ho1, m0, m1, t2, t3, t5, t6, t7, rfl⟩
    · have d1 : decide ((k : Int) < (l.length : Int)) = false := decide_eq_false (by omega)
      rw [List.drop_eq_nil_of_le (by omega)] at hes
      refine goN ?_
      simp (maxSteps := 2000000) only [push_cast, seval, ↓kw2, m0, m1, t2, t3, t5, t6, t7, t8, d1, hlen]
      exact ih (n - 1) (by omega) _ _ ⟨1, es, o, by omega, by omega, hes, hown, ho0, ho1, m0, m1, t2, t3, t5, t6, rfl⟩
  · have hrs : rest 1 = cabF a b c 1 y q t l ++ rest 2 := by simp [h0, h1, h2, h3, hC]
    rw [hrs] at hes
    refine goN ?_
    simp (maxSteps := 2000000) only [push_cast, seval, ↓kw2, m0, m1, t2, t3, t5, t6, t7]
    refine FW.loopInv (fun n ts H => ∃ (k : Nat) (es : List Int) (o : AV), k + n = l.length ∧ es ++ (cabF a b c 1 y q t (l.drop k) ++ rest 2) = C ∧ Own H o (es.map IA) ∧ ownId o ≠ some 0 ∧ ownId o ≠ some 1 ∧ H[0]? = some (.cells [I a, I b, I c]) ∧ H[1]? = some (.cells [I x, I y, I z, I p, I q, I r, B s, B t, B u]) ∧ ts 2 = .ptr 0 0 ∧ ts 3 = .ptr 1 0 ∧ ts 5 = o ∧ ts 6 = sl ∧ ts 7 = I 1 ∧ ts 8 = I (k : Int)) l.length
      ⟨0, es, o, by omega, hes, hown, ho0, ho1, m0, m1, t2, t3, t5, t6, t7, rfl⟩ ?_
    clear hes hown ho0 ho1 m0 m1 t2 t3 t5 t6 t7
    rintro l2 ihl ts H ⟨k, es, o, hk, hes, hown, ho0, ho1, m0, m1, t2, t3, t5, t6, t7, t8⟩
    refine FW.inLoop ?_
    have w2 := wrapL (n := (k : Int) + 1) (by omega) (by omega)
    have hl0 := lt_of_get m0
    have hl1 := lt_of_get m1
    by_cases hlt : k < l.length
    · have d1 : decide ((k : Int) < (l.length : Int)) = true := decide_eq_true (by omega)
      have hx := hidx k hlt
      simp only [Int.toNat_natCast] at hx
      rw [getD_map IA l 0 hlt] at hx
      have hmm := hin (l.getD k 0) (by simp [List.getD, hlt])
      rw [drop_cons 0 hlt, cabF_cons] at hes
      generalize l.getD k 0 = m at hx hmm hes
      have hbb : (0 ≤ (k : Int) ∧ (k : Int) < ((l.map IA).length : Int)) := ⟨by omega, by rw [List.length_map]; omega⟩
      have hW := where01 a b c m hmm
      by_cases he : cooV a b c m 1 = y
      · rw [if_pos he, List.append_assoc, ← List.append_assoc es] at hes
        have d2 := decide_eq_true he
        simp only [cooV, if_true, if_neg (by decide : ¬(1 : Int) = 0), if_neg (by decide : ¬(2 : Int) = 0), if_neg (by decide : ¬(2 : Int) = 1)] at d2
        have hT := took05 (k := 1) (s := q) t (by omega) hmm ⟨by omega, by simp only [dimV, if_true, if_neg (by decide : ¬(1 : Int) = 0), if_neg (by decide : ¬(2 : Int) = 0), if_neg (by decide : ¬(2 : Int) = 1)]; omega⟩
        have htl := len_le_of_append hes
        rw [List.length_append] at htl
        obtain ⟨CC, hap, hCC⟩ := aAppF (P := Tryz.prog) un56 un56 ze3 rfl by3 hown (l := (tookL a b c 1 m q t).map IA) (fun x hx => by obtain ⟨_, _, rfl⟩ := List.mem_map.1 hx; rfl)
        refine goN ?_
        simp (maxSteps := 2000000) only [push_cast, seval, ↓kw2, m0, m1, t2, t3, t5, t6, t7, t8, d1, d2, hlen, hx]
        repeat (first | refine ⟨hbb, ?_⟩)
        refine ⟨_, toVP hW, ?_⟩
        simp (maxSteps := 2000000) only [push_cast, seval, ↓kw2, m0, m1, t2, t3, t5, t6, t7, t8, d1, d2, hlen, hx]
        repeat (first | refine And.intro (by omega) ?_)
        refine ⟨_, toVP hT, ?_⟩
        simp (maxSteps := 2000000) only [push_cast, seval, ↓kw2, m0, m1, t2, t3, t5, t6, t7, t8, d1, d2, hlen, hx, hap, w2]
        refine ⟨hCC (by rw [List.length_map, List.length_map]; omega) (by rw [List.length_map, List.length_map]; omega), ?_⟩
        exact ihl (l2 - 1) (by omega) _ _ ⟨k + 1, es ++ tookL a b c 1 m q t, _, by omega, hes, by rw [List.map_append]; exact apSs_own hown, ownId_apSs hl0 ho0, ownId_apSs hl1 ho1, (apHs_get hl0 ho0).trans m0, (apHs_get hl1 ho1).trans m1, t2, t3, rfl, t6, t7, rfl⟩
      · rw [if_neg he, List.nil_append] at hes
        have d2 := decide_eq_false he
        simp only [cooV, if_true, if_neg (by decide : ¬(1 : Int) = 0), if_neg (by decide : ¬(2 : Int) = 0), if_neg (by decide : ¬(2 : Int) = 1)] at d2
        refine goN ?_
        simp (maxSteps := 2000000) only [push_cast, seval, ↓kw2, m0, m1, t2, t3, t5, t6, t7, t8, d1, d2, hlen, hx]
        repeat (first | refine ⟨hbb, ?_⟩)
        refine ⟨_, toVP hW, ?_⟩
        simp (maxSteps := 2000000) only [push_cast, seval, ↓kw2, m0, m1, t2, t3, t5, t6, t7, t8, d1, d2, hlen, hx, w2]
        repeat (first | refine And.intro (by omega) ?_)
        exact ihl (l2 - 1) (by omega) _ _ ⟨k + 1, es, o, by omega, hes, hown, ho0, ho1, m0, m1, t2, t3, t5, t6, t7, rfl⟩
    · have d1 : decide ((k : Int) < (l.length : Int)) = false := decide_eq_false (by omega)
      rw [List.drop_eq_nil_of_le (by omega)] at hes
      refine goN ?_
      simp (maxSteps := 2000000) only [push_cast, seval, ↓kw2, m0, m1, t2, t3, t5, t6, t7, t8, d1, hlen]
      exact ih (n - 1) (by omega) _ _ ⟨2, es, o, by omega, by omega, hes, hown, ho0, ho1, m0, m1, t2, t3, t5, t6, rfl⟩
  · have hrs : rest 2 = cabF a b c 2 z r u l ++ rest 3 := by simp [h0, h1, h2, h3, hC]
    rw [hrs] at hes
    refine goN ?_
    simp (maxSteps := 2000000) only [push_cast, seval, ↓kw2, m0, m1, t2, t3, t5, t6, t7]
    refine FW.loopInv (fun n ts H => ∃ (k : Nat) (es : List Int) (o : AV), k + n = l.length ∧ es ++ (cabF a b c 2 z r u (l.drop k) ++ rest 3) = C ∧ Own H o (es.map IA) ∧ ownId o ≠ some 0 ∧ ownId o ≠ some 1 ∧ H[0]? = some (.cells [I a, I b, I c]) ∧ H[1]? = some (.cells [I x, I y, I z, I p, I q, I r, B s, B t, B u]) ∧ ts 2 = .ptr 0 0 ∧ ts 3 = .ptr 1 0 ∧ ts 5 = o ∧ ts 6 = sl ∧ ts 7 = I 2 ∧ ts 8 = I (k : Int)) l.length
      ⟨0, es, o, by omega, hes, hown, ho0, ho1, m0, m1, t2, t3, t5, t6, t7, rfl⟩ ?_
    clear hes hown ho0 ho1 m0 m1 t2 t3 t5 t6 t7
    rintro l2 ihl ts H ⟨k, es, o, hk, hes, hown, ho0, ho1, m0, m1, t2, t3, t5, t6, t7, t8⟩
    refine FW.inLoop ?_
    have w2 := wrapL (n := (k : Int) + 1) (by omega) (by omega)
    have hl0 := lt_of_get m0
    have hl1 := lt_of_get m1
    by_cases hlt : k < l.length
    · have d1 : decide ((k : Int) < (l.length : Int)) = true := decide_eq_true (by omega)
      have hx := hidx k hlt
      simp only [Int.toNat_natCast] at hx
      rw [getD_map IA l 0 hlt] at hx
      have hmm := hin (l.getD k 0) (by simp [List.getD, hlt])
      rw [drop_cons 0 hlt, cabF_cons] at hes
      generalize l.getD k 0 = m at hx hmm hes
      have hbb : (0 ≤ (k : Int) ∧ (k : Int) < ((l.map IA).length : Int)) := ⟨by omega, by rw [List.length_map]; omega⟩
      have hW := where01 a b c m hmm
      by_cases he : cooV a b c m 2 = z
      · rw [if_pos he, List.append_assoc, ← List.append_assoc es] at hes
        have d2 := decide_eq_true he
        simp only [cooV, if_true, if_neg (by decide : ¬(1 : Int) = 0), if_neg (by decide : ¬(2 : Int) = 0), if_neg (by decide : ¬(2 : Int) = 1)] at d2
        have hT := took05 (k := 2) (s := r) u (by omega) hmm ⟨by omega, by simp only [dimV, if_true, if_neg (by decide : ¬(1 : Int) = 0), if_neg (by decide : ¬(2 : Int) = 0), if_neg (by decide : ¬(2 : Int) = 1)]; omega⟩
        have htl := len_le_of_append hes
        rw [List.length_append] at htl
        obtain ⟨CC, hap, hCC⟩ := aAppF (P := Tryz.prog) un56 un56 ze3 rfl by3 hown (l := (tookL a b c 2 m r u).map IA) (fun x hx => by obtain ⟨_, _, rfl⟩ := List.mem_map.1 hx; rfl)
        refine goN ?_
        simp (maxSteps := 2000000) only [push_cast, seval, ↓kw2, m0, m1, t2, t3, t5, t6, t7, t8, d1, d2, hlen, hx]
        repeat (first | refine ⟨hbb, ?_⟩)
        refine ⟨_, toVP hW, ?_⟩
        simp (maxSteps := 2000000) only [push_cast, seval, ↓kw2, m0, m1, t2, t3, t5, t6, t7, t8, d1, d2, hlen, hx]
        repeat (first | refine And.intro (by omega) ?_)
        refine ⟨_, toVP hT, ?_⟩
        simp (maxSteps := 2000000) only [push_cast, seval, ↓kw2, m0, m1, t2, t3, t5, t6, t7, t8, d1, d2, hlen, hx, hap, w2]
        refine ⟨hCC (by rw [List.length_map, List.length_map]; omega) (by rw [List.length_map, List.length_map]; omega), ?_⟩
        exact ihl (l2 - 1) (by omega) _ _ ⟨k + 1, es ++ tookL a b c 2 m r u, _, by omega, hes, by rw [List.map_append]; exact apSs_own hown, ownId_apSs hl0 ho0, ownId_apSs hl1 ho1, (apHs_get hl0 ho0).trans m0, (apHs_get hl1 ho1).trans m1, t2, t3, rfl, t6, t7, rfl⟩
      · rw [if_neg he, List.nil_append] at hes
        have d2 := decide_eq_false he
        simp only [cooV, if_true, if_neg (by decide : ¬(1 : Int) = 0), if_neg (by decide : ¬(2 : Int) = 0), if_neg (by decide : ¬(2 : Int) = 1)] at d2
        refine goN ?_
        simp (maxSteps := 2000000) only [push_cast, seval, ↓kw2, m0, m1, t2, t3, t5, t6, t7, t8, d1, d2, hlen, hx]
        repeat (first | refine ⟨hbb, ?_⟩)
        refine ⟨_, toVP hW, ?_⟩
        simp (maxSteps := 2000000) only [push_cast, seval, ↓kw2, m0, m1, t2, t3, t5, t6, t7, t8, d1, d2, hlen, hx, w2]
        repeat (first | refine And.intro (by omega) ?_)
        exact ihl (l2 - 1) (by omega) _ _ ⟨k + 1, es, o, by omega, hes, hown, ho0, ho1, m0, m1, t2, t3, t5, t6, t7, rfl⟩
    · have d1 : decide ((k : Int) < (l.length : Int)) = false := decide_eq_false (by omega)
      rw [List.drop_eq_nil_of_le (by omega)] at hes
      refine goN ?_
      simp (maxSteps := 2000000) only [push_cast, seval, ↓kw2, m0, m1, t2, t3, t5, t6, t7, t8, d1, hlen]
      exact ih (n - 1) (by omega) _ _ ⟨3, es, o, by omega, by omega, hes, hown, ho0, ho1, m0, m1, t2, t3, t5, t6, rfl⟩
  · rw [h3, List.append_nil] at hes
    subst hes
    refine goN ?_
    simp (maxSteps := 2000000) only [push_cast, seval, ↓kw2, m0, m1, t2, t3, t5, t6, t7]
    exact ⟨_, rfl, hown.done (purL_map IA _ fun _ => rfl)⟩
theorem e150 : Ent Tryz.prog 150 Tryz.f150 [] 2 := ⟨Tryz.func150, rfl, by decide, by kernel_rfl, by kernel_rfl, by decide, by kernel_rfl⟩
attribute [push_cast] Tryz.f150
set_option maxHeartbeats 4000000 in
set_option maxRecDepth 400000 in
theorem taken06 {a b c x y z p q r : Int} (s t u : Bool) (hd : okD a b c) (hb : okB a b c x y z p q r) : Pur Tryz.prog GG 150 [.agg [I a, I b, I c], .agg [I x, I y, I z, I p, I q, I r, B s, B t, B u]]
    (.tup [.isl ((ofL (a * b * c) (boxL a b c x y z p q r)).map U), .isl ((ofL (3 * (a * b * c)) (cabL a b c x y z p q r s t u)).map U)]) := by
  have hA := all02_pur hd hb
  have hN := n01 a b c hd
  have hK := cables06 s t u hd hb
  have hmu := okD_mul hd
  have h1 : 1 ≤ a * b * c := by
    unfold okD at hd
    have := Int.mul_pos (Int.mul_pos (show 0 < a by omega) (show 0 < b by omega)) (show 0 < c by omega)
    omega
  have w3 := wrapL (n := 3 * (a * b * c)) (by omega) (by omega)
  have hF1 := from_pur (n := a * b * c) (IsSl.frS ((boxL a b c x y z p q r).map IA)) (by omega) (fun k hk => (nodes_mem hd hb ((boxL_mem hd hb).1 hk)).2) (by have := boxL_len hd x y z p q r; omega)
  have hF2 := from_pur (n := 3 * (a * b * c)) (IsSl.frS ((cabL a b c x y z p q r s t u).map IA)) (by omega) (fun k hk => links_mem hd hb k ((cabL_mem hd hb k).1 hk)) (by have := cabL_len hd x y z p q r s t u; omega)
  refine goQ e150 TOk.nil 0 ?_
  simp (maxSteps := 2000000) only [push_cast, seval, ↓kw2]
  refine AC.pur hN ?_
  refine goN ?_
  simp (maxSteps := 2000000) only [push_cast, seval, ↓kw2, w3]
  refine ⟨_, toVP hA, ?_⟩
  try simp (maxSteps := 2000000) only [push_cast, seval, ↓kw2, w3]
  refine ⟨_, toVP hF1, ?_⟩
  try simp (maxSteps := 2000000) only [push_cast, seval, ↓kw2, w3]
  refine ⟨_, toVP hK, ?_⟩
  try simp (maxSteps := 2000000) only [push_cast, seval, ↓kw2, w3]
  refine ⟨_, toVP hF2, ?_⟩
  try simp (maxSteps := 2000000) only [push_cast, seval, ↓kw2, w3]
  exact ⟨_, rfl, done_pur (by simp [AV.pur, AV.purL]) rfl⟩
theorem e95 : Ent Tryz.prog 95 Tryz.f95 [] 4 := ⟨Tryz.func95, rfl, by decide, by kernel_rfl, by kernel_rfl, by decide, by kernel_rfl⟩
attribute [push_cast] Tryz.f95
set_option maxHeartbeats 4000000 in
set_option maxRecDepth 400000 in
theorem clear11 {a b c : Int} {s r : AV} {xs ys : List Int} (hs : IsSl s (xs.map U)) (hr : IsSl r (ys.map U)) (hx : ∀ w ∈ xs, inU w) (hy : ∀ w ∈ ys, inU w) (hl : xs.length ≤ 2 ^ 12) (hl2 : ys.length ≤ 2 ^ 12) {X : Plc} (hk : X.ok a b c) :
    Pur Tryz.prog GG 95 [.agg [I a, I b, I c], X.av, s, r] (B (holdV a b c xs ys X)) := by
  obtain ⟨x, y, z, p, q, r', s', t, u⟩ := X
  have hd := hk.1
  have hb := hk.2.1
  have hps := hs.pur (purL_map U _ fun _ => rfl)
  have hpr := hr.pur (purL_map U _ fun _ => rfl)
  have hmv : manyV a b c = a * b * c := by rw [manyV, if_pos hd]
  have hmu := okD_mul hd
  have hT := taken06 s' t u hd hb
  have e := hold_ref xs ys hk
  rw [hmv] at e
  have i1 := ofL_inU (a * b * c) (boxL a b c x y z p q r')
  have i2 := ofL_inU (3 * (a * b * c)) (cabL a b c x y z p q r' s' t u)
  have l1 := ofL_length (a * b * c) (boxL a b c x y z p q r')
  have l2 := ofL_length (3 * (a * b * c)) (cabL a b c x y z p q r' s' t u)
  have hw : ∀ n : Int, n ≤ 12288 → (wordsV n).toNat ≤ 192 := fun n hn => by unfold wordsV; split <;> omega
  have hw1 := hw (a * b * c) (by omega)
  have hw2 := hw (3 * (a * b * c)) (by omega)
  have hM1 := meets_pur (.inl rfl) hs i1 hx (by omega) hl
  have hM2 := meets_pur (.inl rfl) hr i2 hy (by omega) hl2
  rw [← e]
  simp only at hM1 hM2 ⊢
  generalize (ofL (a * b * c) (boxL a b c x y z p q r')) = A1 at *
  generalize (ofL (3 * (a * b * c)) (cabL a b c x y z p q r' s' t u)) = A2 at *
  show Pur Tryz.prog GG 95 [.agg [I a, I b, I c], PL x y z p q r' s' t u, s, r] _
  refine goQ e95 TOk.nil 0 ?_ (by simp [AV.purL, AV.pur, hps, hpr])
  simp (maxSteps := 2000000) only [push_cast, seval, ↓kw2]
  refine AC.pur hT ?_
  refine goN ?_
  simp (maxSteps := 2000000) only [push_cast, seval, ↓kw2]
  refine AC.pur hM1 ?_
  cases h1 : meetB A1 xs
  · skip
    refine goN ?_
    simp (maxSteps := 2000000) only [push_cast, seval, ↓kw2]
    refine AC.pur hM2 ?_
    refine goN ?_
    simp (maxSteps := 2000000) only [push_cast, seval, ↓kw2]
    exact ⟨_, rfl, done_pur rfl (by simp)⟩
  · skip
    refine goN ?_
    simp (maxSteps := 2000000) only [push_cast, seval, ↓kw2]
    exact ⟨_, rfl, done_pur rfl (by simp)⟩
end Go.Ab.Pd

set_option linter.unusedSimpArgs false
set_option linter.unusedVariables false
namespace Go.Ab.Pd
open Go.Proofs
theorem e92 : Ent Tryz.prog 92 Tryz.f92 [] 1 := ⟨Tryz.func92, rfl, by decide, by kernel_rfl, by kernel_rfl, by decide, by kernel_rfl⟩
attribute [push_cast] Tryz.f92
set_option maxHeartbeats 4000000 in
set_option maxRecDepth 400000 in
theorem may04 (p q r : Int) (s t u v : Bool) : Pur Tryz.prog GG 92 [WT p q r s t u v] (B (decide (okW p q r))) := by
  refine goQ e92 Q9_ok 5 ?_
  simp (maxSteps := 2000000) only [push_cast, seval, ↓kw2]
  repeat' (first | apply And.intro | intro _)
  all_goals
    refine ⟨_, rfl, done_pur rfl ?_⟩
    simp only [AV.c.injEq, Value.bool.injEq]
    first | exact (decide_eq_true (by unfold okW; omega)).symm | exact (decide_eq_false (by unfold okW; omega)).symm
@[push_cast] def g92 : List AV → Option (Prop × AV)
  | [.agg [(.c (.int .i64 p)), (.c (.int .i64 q)), (.c (.int .i64 r)), (.c (.bool s)), (.c (.bool t)), (.c (.bool u)), (.c (.bool v))]] => some (True, B (decide (okW p q r)))
  | _ => none
theorem g92_ok : ∀ args p, g92 args = some p → p.1 → Pur Tryz.prog GG 92 args p.2 := by
  intro args p hp hc
  unfold g92 at hp
  split at hp
  · cases hp
    exact may04 _ _ _ _ _ _ _
  · cases hp
@[push_cast] def Q10 : Tab := Tab.ext Q9 92 g92
theorem Q10_ok : TOk Tryz.prog GG Q10 := TOk.ext Q9_ok g92_ok
theorem e206 : Ent Tryz.prog 206 Tryz.f206 [] 1 := ⟨Tryz.func206, rfl, by decide, by kernel_rfl, by kernel_rfl, by decide, by kernel_rfl⟩
attribute [push_cast] Tryz.f206
set_option maxHeartbeats 4000000 in
set_option maxRecDepth 400000 in
theorem flag04 (s : Bool) : Pur Tryz.prog GG 206 [B s] (I (bitV s)) := by
  refine goQ e206 Q10_ok 0 ?_
  simp (maxSteps := 2000000) only [push_cast, seval, ↓kw2, gdK_var]
  exact ⟨fun h => ⟨_, rfl, done_pur rfl (by rw [bitV, if_pos h])⟩, fun h => ⟨_, rfl, done_pur rfl (by rw [bitV, if_neg (by simp [h])])⟩⟩
@[push_cast] def g206 : List AV → Option (Prop × AV)
  | [(.c (.bool s))] => some (True, I (bitV s))
  | _ => none
theorem g206_ok : ∀ args p, g206 args = some p → p.1 → Pur Tryz.prog GG 206 args p.2 := by
  intro args p hp hc
  unfold g206 at hp
  split at hp
  · cases hp
    exact flag04 _
  · cases hp
@[push_cast] def Q11 : Tab := Tab.ext Q10 206 g206
theorem Q11_ok : TOk Tryz.prog GG Q11 := TOk.ext Q10_ok g206_ok
def lessW (x y : Wnt) : Bool :=
  if x.p = y.p then if x.q = y.q then if x.r = y.r then if x.s = y.s then if x.t = y.t then if x.u = y.u then false else y.u else y.t else y.s else decide (x.r < y.r) else decide (x.q < y.q) else decide (x.p < y.p)
theorem bv0 : bitV false = 0 := rfl
theorem bv1 : bitV true = 1 := rfl
theorem e156 : Ent Tryz.prog 156 Tryz.f156 [] 2 := ⟨Tryz.func156, rfl, by decide, by kernel_rfl, by kernel_rfl, by decide, by kernel_rfl⟩
attribute [push_cast] Tryz.f156
set_option maxHeartbeats 8000000 in
set_option maxRecDepth 400000 in
theorem less04 (X Y : Wnt) : Pur Tryz.prog GG 156 [X.av, Y.av] (B (lessW X Y)) := by
  obtain ⟨p, q, r, s, t, u, v⟩ := X
  obtain ⟨p', q', r', s', t', u', v'⟩ := Y
  show Pur Tryz.prog GG 156 [WT p q r s t u v, WT p' q' r' s' t' u' v'] _
  unfold lessW
  simp only
  by_cases e0 : p = p'
  · subst e0
    rw [if_pos rfl]
    have d0 : decide (p ≠ p) = false := by simp
    by_cases e1 : q = q'
    · subst e1
      rw [if_pos rfl]
      have d1 : decide (q ≠ q) = false := by simp
      by_cases e2 : r = r'
      · subst e2
        rw [if_pos rfl]
        have d2 : decide (r ≠ r) = false := by simp
        by_cases e3 : s = s'
        · subst e3
          rw [if_pos rfl]
          by_cases e4 : t = t'
          · subst e4
            rw [if_pos rfl]
            by_cases e5 : u = u'
            · subst e5
              rw [if_pos rfl]
              refine goQ e156 Q11_ok 8 ?_
              simp (maxSteps := 2000000) only [push_cast, seval, ↓kw2, bne_tt, bne_ff, bne_tf, bne_ft, bne_self_eq_false, bv0, bv1, d0, d1, d2]
              exact ⟨_, rfl, done_pur rfl rfl⟩
            · rw [if_neg e5]
              cases u <;> cases u' <;> first | exact absurd rfl e5 | skip
              all_goals
                refine goQ e156 Q11_ok 8 ?_
                simp (maxSteps := 2000000) only [push_cast, seval, ↓kw2, bne_tt, bne_ff, bne_tf, bne_ft, bne_self_eq_false, bv0, bv1, d0, d1, d2]
                exact ⟨_, rfl, done_pur rfl rfl⟩
          · rw [if_neg e4]
            cases t <;> cases t' <;> first | exact absurd rfl e4 | skip
            all_goals
              refine goQ e156 Q11_ok 8 ?_
              simp (maxSteps := 2000000) only [push_cast, seval, ↓kw2, bne_tt, bne_ff, bne_tf, bne_ft, bne_self_eq_false, bv0, bv1, d0, d1, d2]
              exact ⟨_, rfl, done_pur rfl rfl⟩
        · rw [if_neg e3]
          cases s <;> cases s' <;> first | exact absurd rfl e3 | skip
          all_goals
            refine goQ e156 Q11_ok 8 ?_
            simp (maxSteps := 2000000) only [push_cast, seval, ↓kw2, bne_tt, bne_ff, bne_tf, bne_ft, bne_self_eq_false, bv0, bv1, d0, d1, d2]
            exact ⟨_, rfl, done_pur rfl rfl⟩
      · rw [if_neg e2]
        have d2 : decide (r ≠ r') = true := by simp [e2]
        refine goQ e156 Q11_ok 8 ?_
        simp (maxSteps := 2000000) only [push_cast, seval, ↓kw2, bne_tt, bne_ff, bne_tf, bne_ft, bne_self_eq_false, bv0, bv1, d0, d1, d2]
        exact ⟨_, rfl, done_pur rfl rfl⟩
    · rw [if_neg e1]
      have d1 : decide (q ≠ q') = true := by simp [e1]
      refine goQ e156 Q11_ok 8 ?_
      simp (maxSteps := 2000000) only [push_cast, seval, ↓kw2, bne_tt, bne_ff, bne_tf, bne_ft, bne_self_eq_false, bv0, bv1, d0, d1]
      exact ⟨_, rfl, done_pur rfl rfl⟩
  · rw [if_neg e0]
    have d0 : decide (p ≠ p') = true := by simp [e0]
    refine goQ e156 Q11_ok 8 ?_
    simp (maxSteps := 2000000) only [push_cast, seval, ↓kw2, bne_tt, bne_ff, bne_tf, bne_ft, bne_self_eq_false, bv0, bv1, d0]
    exact ⟨_, rfl, done_pur rfl rfl⟩
theorem e104 : Ent Tryz.prog 104 Tryz.f104 [] 2 := ⟨Tryz.func104, rfl, by decide, by kernel_rfl, by kernel_rfl, by decide, by kernel_rfl⟩
attribute [push_cast] Tryz.f104
set_option maxHeartbeats 8000000 in
set_option maxRecDepth 400000 in
theorem less12 (X Y : Plc) : Pur Tryz.prog GG 104 [X.av, Y.av] (B (lessP X Y)) := by
  obtain ⟨x, y, z, p, q, r, s, t, u⟩ := X
  obtain ⟨x', y', z', p', q', r', s', t', u'⟩ := Y
  show Pur Tryz.prog GG 104 [PL x y z p q r s t u, PL x' y' z' p' q' r' s' t' u'] _
  unfold lessP
  simp only
  by_cases e0 : p = p'
  · subst e0
    rw [if_pos rfl]
    have d0 : decide (p ≠ p) = false := by simp
    by_cases e1 : q = q'
    · subst e1
      rw [if_pos rfl]
      have d1 : decide (q ≠ q) = false := by simp
      by_cases e2 : r = r'
      · subst e2
        rw [if_pos rfl]
        have d2 : decide (r ≠ r) = false := by simp
        by_cases e3 : s = s'
        · subst e3
          rw [if_pos rfl]
          by_cases e4 : t = t'
          · subst e4
            rw [if_pos rfl]
            by_cases e5 : u = u'
            · subst e5
              rw [if_pos rfl]
              refine goQ e104 Q11_ok 8 ?_
              simp (maxSteps := 2000000) only [push_cast, seval, ↓kw2, bne_tt, bne_ff, bne_tf, bne_ft, bne_self_eq_false, d0, d1, d2]
              exact ⟨_, rfl, done_pur rfl rfl⟩
            · rw [if_neg e5]
              cases u <;> cases u' <;> first | exact absurd rfl e5 | skip
              all_goals
                refine goQ e104 Q11_ok 8 ?_
                simp (maxSteps := 2000000) only [push_cast, seval, ↓kw2, bne_tt, bne_ff, bne_tf, bne_ft, bne_self_eq_false, d0, d1, d2]
                exact ⟨_, rfl, done_pur rfl rfl⟩
          · rw [if_neg e4]
            cases t <;> cases t' <;> first | exact absurd rfl e4 | skip
            all_goals
              refine goQ e104 Q11_ok 8 ?_
              simp (maxSteps := 2000000) only [push_cast, seval, ↓kw2, bne_tt, bne_ff, bne_tf, bne_ft, bne_self_eq_false, d0, d1, d2]
              exact ⟨_, rfl, done_pur rfl rfl⟩
        · rw [if_neg e3]
          cases s <;> cases s' <;> first | exact absurd rfl e3 | skip
          all_goals
            refine goQ e104 Q11_ok 8 ?_
            simp (maxSteps := 2000000) only [push_cast, seval, ↓kw2, bne_tt, bne_ff, bne_tf, bne_ft, bne_self_eq_false, d0, d1, d2]
            exact ⟨_, rfl, done_pur rfl rfl⟩
      · rw [if_neg e2]
        have d2 : decide (r ≠ r') = true := by simp [e2]
        refine goQ e104 Q11_ok 8 ?_
        simp (maxSteps := 2000000) only [push_cast, seval, ↓kw2, bne_tt, bne_ff, bne_tf, bne_ft, bne_self_eq_false, d0, d1, d2]
        exact ⟨_, rfl, done_pur rfl rfl⟩
    · rw [if_neg e1]
      have d1 : decide (q ≠ q') = true := by simp [e1]
      refine goQ e104 Q11_ok 8 ?_
      simp (maxSteps := 2000000) only [push_cast, seval, ↓kw2, bne_tt, bne_ff, bne_tf, bne_ft, bne_self_eq_false, d0, d1]
      exact ⟨_, rfl, done_pur rfl rfl⟩
  · rw [if_neg e0]
    have d0 : decide (p ≠ p') = true := by simp [e0]
    refine goQ e104 Q11_ok 8 ?_
    simp (maxSteps := 2000000) only [push_cast, seval, ↓kw2, bne_tt, bne_ff, bne_tf, bne_ft, bne_self_eq_false, d0]
    exact ⟨_, rfl, done_pur rfl rfl⟩
end Go.Ab.Pd

set_option linter.unusedSimpArgs false
set_option linter.unusedVariables false
namespace Go.Ab.Pd
open Go.Proofs
theorem Wnt.eqT0 (p q r p' q' r' : Int) (s t u v s' t' u' v' : Bool) : aEqS Tryz.prog 26 (WT p q r s t u v) (WT p' q' r' s' t' u' v') =
    some (((p == p' && (q == q' && (r == r' && true))) && ((s == s' && (t == t' && (u == u' && true))) && (v == v' && true)))) := by kernel_rfl
theorem Wnt.eqT (a b : Wnt) : aEqS Tryz.prog 26 a.av b.av = some (decide (a = b)) := by
  obtain ⟨p, q, r, s, t, u, v⟩ := a
  obtain ⟨p', q', r', s', t', u', v'⟩ := b
  unfold Wnt.av
  rw [Wnt.eqT0, Option.some.injEq, Bool.eq_iff_iff, decide_eq_true_iff]
  simp [and_assoc]
theorem outL_len {α : Type} (less : α → α → Bool) (p : α) : ∀ (l : List α) (d : Bool), (outL less p l d).length ≤ l.length + 1
  | [], d => by unfold outL; split <;> simp
  | y :: l, d => by
    have h1 := outL_len less p l true
    have h2 := outL_len less p l d
    unfold outL
    split
    · rw [outL_true] at h1 ⊢
      simp
    · simp only [List.length_cons]; omega
theorem outL_f {α : Type} (less : α → α → Bool) (p y : α) (l : List α) : outL less p (y :: l) false = if less p y = true then p :: y :: outL less p l true else y :: outL less p l false := by
  rw [outL]
  simp
theorem outL_t {α : Type} (less : α → α → Bool) (p y : α) (l : List α) : outL less p (y :: l) true = y :: outL less p l true := by
  rw [outL]
  simp
theorem e103 : Ent Tryz.prog 103 Tryz.f103 [] 2 := ⟨Tryz.func103, rfl, by decide, by kernel_rfl, by kernel_rfl, by decide, by kernel_rfl⟩
attribute [push_cast] Tryz.f103
set_option maxHeartbeats 8000000 in
set_option maxRecDepth 400000 in
theorem put04 {l : List Wnt} (x : Wnt) (hl : l.length ≤ 2 ^ 19) : Pur Tryz.prog GG 103 [frS (l.map Wnt.av), x.av] (frS ((putL lessW l x).map Wnt.av)) := by
  have hL : IsSl (frS (l.map Wnt.av)) (l.map Wnt.av) := IsSl.frS _
  have hpu := hL.pur (purL_map Wnt.av _ Wnt.pur)
  generalize hsl : frS (l.map Wnt.av) = sl at hL hpu
  have hlen := hL.len (P := Tryz.prog) un97
  rw [List.length_map] at hlen
  have hidx := fun (i : Nat) (hi : i < l.length) (H : List AO) => hL.idx (P := Tryz.prog) un97 sz26 (i := (i : Int)) (by rw [List.length_map]; omega) (by omega) H
  have hol := outL_len lessW x l false
  show Pur Tryz.prog GG 103 [sl, .agg [I x.p, I x.q, I x.r, B x.s, B x.t, B x.u, B x.v]] _
  refine goQ e103 TOk.nil 0 ?_ (by simp [AV.purL, AV.pur, hpu])
  simp (maxSteps := 2000000) only [push_cast, seval, ↓kw2]
  refine FW.loopInv (fun n ts H => ∃ (i : Nat) (es : List Wnt) (o : AV) (d : Bool), i + n = l.length ∧ (∀ y ∈ l.take i, ¬y = x) ∧ es ++ outL lessW x (l.drop i) d = outL lessW x l false ∧ OwnK 7 H o (es.map Wnt.av) ∧ ownId o ≠ some 0 ∧ H[0]? = some (.cells [I x.p, I x.q, I x.r, B x.s, B x.t, B x.u, B x.v]) ∧ ts 0 = sl ∧ ts 3 = .ptr 0 0 ∧ ts 5 = o ∧ ts 6 = B d ∧ ts 7 = I (i : Int)) l.length
    ⟨0, [], _, false, by omega, by simp, rfl, .nil, by simp [ownId], rfl, rfl, rfl, rfl, rfl, rfl⟩ ?_
  rintro n ih ts H ⟨i, es, o, d, hi, hne, hes, hown, ho0, m0, t0, t3, t5, t6, t7⟩
  refine FW.inLoop ?_
  have w2 := wrapL (n := (i : Int) + 1) (by omega) (by omega)
  have hl0 := lt_of_get m0
  have hap := fun v => aAppK (P := Tryz.prog) (k := 7) un97 un97 ze26 rfl by26 hown v
  have hle := len_le_of_append hes
  have hcx := Wnt.cells x
  by_cases hlt : i < l.length
  · have d1 : decide ((i : Int) < (l.length : Int)) = true := decide_eq_true (by omega)
    have hxi := hidx i hlt
    simp only [Int.toNat_natCast] at hxi
    rw [getD_map Wnt.av l default hlt] at hxi
    rw [drop_cons default hlt] at hes
    have htk := take_succ_getD default hlt
    have hmem : l.getD i default ∈ l := by simp [List.getD, hlt]
    generalize l.getD i default = y at hxi hes htk hmem
    have hcy := Wnt.cells y
    have heq := Wnt.eqT y x
    have hbb : (0 ≤ (i : Int) ∧ (i : Int) < ((l.map Wnt.av).length : Int)) := ⟨by omega, by rw [List.length_map]; omega⟩
    by_cases he : y = x
    · rw [decide_eq_true he] at heq
      simp only [Wnt.av] at heq
      refine goN ?_
      simp (maxSteps := 2000000) only [push_cast, seval, ↓kw2, m0, t0, t3, t5, t6, t7, d1, hlen, hxi, hcy, heq, aBinAgg]
      repeat (first | refine ⟨hbb, ?_⟩)
      exact ⟨_, rfl, done_pur hpu (by rw [putL, if_pos (by rw [← he]; exact hmem)]; exact hsl.symm)⟩
    · rw [decide_eq_false he] at heq
      simp only [Wnt.av] at heq
      have hne' : ∀ z ∈ l.take (i + 1), ¬z = x := fun z hz => by
        rw [htk, List.mem_append, List.mem_singleton] at hz
        rcases hz with hz | rfl
        · exact hne z hz
        · exact he
      cases d
      · rw [outL_f] at hes
        refine goN ?_
        simp (maxSteps := 2000000) only [push_cast, seval, ↓kw2, m0, t0, t3, t5, t6, t7, d1, hlen, hxi, hcy, heq, aBinAgg]
        repeat (first | refine ⟨hbb, ?_⟩)
        refine ⟨_, toVP (less04 x y), ?_⟩
        cases hls : lessW x y
        · rw [hls, if_neg (by decide)] at hes
          simp (maxSteps := 2000000) only [push_cast, seval, ↓kw2, m0, t0, t3, t5, t6, t7, d1, hlen, hxi, hcy, aBinAgg, hap, w2]
          repeat (first | refine ⟨hbb, ?_⟩ | refine ⟨apC_of (by rw [List.length_map]; omega) (by decide), ?_⟩)
          exact ih (n - 1) (by omega) _ _ ⟨i + 1, es ++ [y], _, false, by omega, hne', by rw [List.append_assoc]; exact hes, by rw [List.map_append]; exact apHk_own, ownNe (by omega), (apHk_get hl0 ho0).trans m0, t0, t3, rfl, t6, rfl⟩
        · rw [hls, if_pos rfl] at hes
          have m0' := (apHk_get (k := 7) (H := H) (s := o) (es := es.map Wnt.av) (v := .agg [I x.p, I x.q, I x.r, B x.s, B x.t, B x.u, B x.v]) hl0 ho0).trans m0
          have hap2 := fun v => aAppK (P := Tryz.prog) (k := 7) un97 un97 ze26 rfl by26 (apHk_own (k := 7) (H := H) (s := o) (es := es.map Wnt.av) (v := .agg [I x.p, I x.q, I x.r, B x.s, B x.t, B x.u, B x.v])) v
          have hl2 := apHk_length (k := 7) (H := H) (s := o) (es := es.map Wnt.av) (v := .agg [I x.p, I x.q, I x.r, B x.s, B x.t, B x.u, B x.v])
          have hown3 := apHk_own (k := 7) (H := apHk 7 H o (es.map Wnt.av) (.agg [I x.p, I x.q, I x.r, B x.s, B x.t, B x.u, B x.v])) (s := .sl (H.length + 1) 0 ((es.map Wnt.av).length + 1) ((es.map Wnt.av).length + 1)) (es := es.map Wnt.av ++ [.agg [I x.p, I x.q, I x.r, B x.s, B x.t, B x.u, B x.v]]) (v := y.av)
          rw [List.length_append, List.length_singleton] at hown3
          simp (maxSteps := 2000000) only [push_cast, seval, ↓kw2, m0, m0', t0, t3, t5, t6, t7, d1, hlen, hxi, hcy, aBinAgg, hap, hap2, w2]
          repeat (first | refine ⟨hbb, ?_⟩ | refine ⟨apC_of (by first | (rw [List.length_map]; omega) | (rw [List.length_append, List.length_map, List.length_singleton]; omega)) (by decide), ?_⟩)
          exact ih (n - 1) (by omega) _ _ ⟨i + 1, es ++ [x, y], _, true, by omega, hne', by rw [List.append_assoc]; exact hes, by rw [List.map_append, show [x, y].map Wnt.av = [x.av] ++ [y.av] from rfl, ← List.append_assoc]; exact hown3, ownNe (by omega), (apHk_get (by omega) (ownNe (by omega))).trans m0', t0, t3, rfl, rfl, rfl⟩
      · rw [outL_t] at hes
        refine goN ?_
        simp (maxSteps := 2000000) only [push_cast, seval, ↓kw2, m0, t0, t3, t5, t6, t7, d1, hlen, hxi, hcy, heq, aBinAgg, hap, w2]
        repeat (first | refine ⟨hbb, ?_⟩ | refine ⟨apC_of (by rw [List.length_map]; omega) (by decide), ?_⟩)
        exact ih (n - 1) (by omega) _ _ ⟨i + 1, es ++ [y], _, true, by omega, hne', by rw [List.append_assoc]; exact hes, by rw [List.map_append]; exact apHk_own, ownNe (by omega), (apHk_get hl0 ho0).trans m0, t0, t3, rfl, t6, rfl⟩
  · have d1 : decide ((i : Int) < (l.length : Int)) = false := decide_eq_false (by omega)
    rw [List.drop_eq_nil_of_le (by omega)] at hes
    rw [List.take_of_length_le (by omega)] at hne
    have hput : putL lessW l x = outL lessW x l false := by rw [putL, if_neg (fun h => hne x h rfl)]
    rw [hput, ← hes]
    cases d
    · skip
      refine goN ?_
      simp (maxSteps := 2000000) only [push_cast, seval, ↓kw2, m0, t0, t3, t5, t6, t7, d1, hlen, hap]
      repeat (first | refine ⟨apC_of (by rw [List.length_map]; omega) (by decide), ?_⟩)
      refine ⟨_, rfl, 2, ?_⟩
      rw [show outL lessW x [] false = [x] from rfl, List.map_append]
      exact apHk_own.frz (by
        have := purL_map Wnt.av (es ++ [x]) Wnt.pur
        rw [List.map_append] at this
        exact this)
    · skip
      refine goN ?_
      simp (maxSteps := 2000000) only [push_cast, seval, ↓kw2, m0, t0, t3, t5, t6, t7, d1, hlen]
      refine ⟨_, rfl, 2, ?_⟩
      rw [show outL lessW x [] true = [] from rfl, List.append_nil]
      exact hown.frz (purL_map Wnt.av _ Wnt.pur)
theorem e46 : Ent Tryz.prog 46 Tryz.f46 [] 2 := ⟨Tryz.func46, rfl, by decide, by kernel_rfl, by kernel_rfl, by decide, by kernel_rfl⟩
attribute [push_cast] Tryz.f46
set_option maxHeartbeats 8000000 in
set_option maxRecDepth 400000 in
theorem put12 {l : List Plc} (x : Plc) (hl : l.length ≤ 2 ^ 19) : Pur Tryz.prog GG 46 [frS (l.map Plc.av), x.av] (frS ((putL lessP l x).map Plc.av)) := by
  have hL : IsSl (frS (l.map Plc.av)) (l.map Plc.av) := IsSl.frS _
  have hpu := hL.pur (purL_map Plc.av _ Plc.pur)
  generalize hsl : frS (l.map Plc.av) = sl at hL hpu
  have hlen := hL.len (P := Tryz.prog) un34
  rw [List.length_map] at hlen
  have hidx := fun (i : Nat) (hi : i < l.length) (H : List AO) => hL.idx (P := Tryz.prog) un34 sz32 (i := (i : Int)) (by rw [List.length_map]; omega) (by omega) H
  have hol := outL_len lessP x l false
  show Pur Tryz.prog GG 46 [sl, .agg [I x.x, I x.y, I x.z, I x.p, I x.q, I x.r, B x.s, B x.t, B x.u]] _
  refine goQ e46 TOk.nil 0 ?_ (by simp [AV.purL, AV.pur, hpu])
  simp (maxSteps := 2000000) only [push_cast, seval, ↓kw2]
  refine FW.loopInv (fun n ts H => ∃ (i : Nat) (es : List Plc) (o : AV) (d : Bool), i + n = l.length ∧ (∀ y ∈ l.take i, ¬y = x) ∧ es ++ outL lessP x (l.drop i) d = outL lessP x l false ∧ OwnK 9 H o (es.map Plc.av) ∧ ownId o ≠ some 0 ∧ H[0]? = some (.cells [I x.x, I x.y, I x.z, I x.p, I x.q, I x.r, B x.s, B x.t, B x.u]) ∧ ts 0 = sl ∧ ts 3 = .ptr 0 0 ∧ ts 5 = o ∧ ts 6 = B d ∧ ts 7 = I (i : Int)) l.length
    ⟨0, [], _, false, by omega, by simp, rfl, .nil, by simp [ownId], rfl, rfl, rfl, rfl, rfl, rfl⟩ ?_
  rintro n ih ts H ⟨i, es, o, d, hi, hne, hes, hown, ho0, m0, t0, t3, t5, t6, t7⟩
  refine FW.inLoop ?_
  have w2 := wrapL (n := (i : Int) + 1) (by omega) (by omega)
  have hl0 := lt_of_get m0
  have hap := fun v => aAppK (P := Tryz.prog) (k := 9) un34 un34 ze32 rfl by32 hown v
  have hle := len_le_of_append hes
  have hcx := Plc.cells x
  by_cases hlt : i < l.length
  · have d1 : decide ((i : Int) < (l.length : Int)) = true := decide_eq_true (by omega)
    have hxi := hidx i hlt
    simp only [Int.toNat_natCast] at hxi
    rw [getD_map Plc.av l default hlt] at hxi
    rw [drop_cons default hlt] at hes
    have htk := take_succ_getD default hlt
    have hmem : l.getD i default ∈ l := by simp [List.getD, hlt]
    generalize l.getD i default = y at hxi hes htk hmem
    have hcy := Plc.cells y
    have heq := Plc.eq y x
    have hbb : (0 ≤ (i : Int) ∧ (i : Int) < ((l.map Plc.av).length : Int)) := ⟨by omega, by rw [List.length_map]; omega⟩
    by_cases he : y = x
    · rw [decide_eq_true he] at heq
      simp only [Plc.av] at heq
      refine goN ?_
      simp (maxSteps := 2000000) only [push_cast, seval, ↓kw2, m0, t0, t3, t5, t6, t7, d1, hlen, hxi, hcy, heq, aBinAgg]
      repeat (first | refine ⟨hbb, ?_⟩)
      exact ⟨_, rfl, done_pur hpu (by rw [putL, if_pos (by rw [← he]; exact hmem)]; exact hsl.symm)⟩
    · rw [decide_eq_false he] at heq
      simp only [Plc.av] at heq
      have hne' : ∀ z ∈ l.take (i + 1), ¬z = x := fun z hz => by
        rw [htk, List.mem_append, List.mem_singleton] at hz
        rcases hz with hz | rfl
        · exact hne z hz
        · exact he
      cases d
      · rw [outL_f] at hes
        refine goN ?_
        simp (maxSteps := 2000000) only [push_cast, seval, ↓kw2, m0, t0, t3, t5, t6, t7, d1, hlen, hxi, hcy, heq, aBinAgg]
        repeat (first | refine ⟨hbb, ?_⟩)
        refine ⟨_, toVP (less12 x y), ?_⟩
        cases hls : lessP x y
        · rw [hls, if_neg (by decide)] at hes
          simp (maxSteps := 2000000) only [push_cast, seval, ↓kw2, m0, t0, t3, t5, t6, t7, d1, hlen, hxi, hcy, aBinAgg, hap, w2]
          repeat (first | refine ⟨hbb, ?_⟩ | refine ⟨apC_of (by rw [List.length_map]; omega) (by decide), ?_⟩)
          exact ih (n - 1) (by omega) _ _ ⟨i + 1, es ++ [y], _, false, by omega, hne', by rw [List.append_assoc]; exact hes, by rw [List.map_append]; exact apHk_own, ownNe (by omega), (apHk_get hl0 ho0).trans m0, t0, t3, rfl, t6, rfl⟩
        · rw [hls, if_pos rfl] at hes
          have m0' := (apHk_get (k := 9) (H := H) (s := o) (es := es.map Plc.av) (v := .agg [I x.x, I x.y, I x.z, I x.p, I x.q, I x.r, B x.s, B x.t, B x.u]) hl0 ho0).trans m0
          have hap2 := fun v => aAppK (P := Tryz.prog) (k := 9) un34 un34 ze32 rfl by32 (apHk_own (k := 9) (H := H) (s := o) (es := es.map Plc.av) (v := .agg [I x.x, I x.y, I x.z, I x.p, I x.q, I x.r, B x.s, B x.t, B x.u])) v
          have hl2 := apHk_length (k := 9) (H := H) (s := o) (es := es.map Plc.av) (v := .agg [I x.x, I x.y, I x.z, I x.p, I x.q, I x.r, B x.s, B x.t, B x.u])
          have hown3 := apHk_own (k := 9) (H := apHk 9 H o (es.map Plc.av) (.agg [I x.x, I x.y, I x.z, I x.p, I x.q, I x.r, B x.s, B x.t, B x.u])) (s := .sl (H.length + 1) 0 ((es.map Plc.av).length + 1) ((es.map Plc.av).length + 1)) (es := es.map Plc.av ++ [.agg [I x.x, I x.y, I x.z, I x.p, I x.q, I x.r, B x.s, B x.t, B x.u]]) (v := y.av)
          rw [List.length_append, List.length_singleton] at hown3
          simp (maxSteps := 2000000) only [push_cast, seval, ↓kw2, m0, m0', t0, t3, t5, t6, t7, d1, hlen, hxi, hcy, aBinAgg, hap, hap2, w2]
          repeat (first | refine ⟨hbb, ?_⟩ | refine ⟨apC_of (by first | (rw [List.length_map]; omega) | (rw [List.length_append, List.length_map, List.length_singleton]; omega)) (by decide), ?_⟩)
          exact ih (n - 1) (by omega) _ _ ⟨i + 1, es ++ [x, y], _, true, by omega, hne', by rw [List.append_assoc]; exact hes, by rw [List.map_append, show [x, y].map Plc.av = [x.av] ++ [y.av] from rfl, ← List.append_assoc]; exact hown3, ownNe (by omega), (apHk_get (by omega) (ownNe (by omega))).trans m0', t0, t3, rfl, rfl, rfl⟩
      · rw [outL_t] at hes
        refine goN ?_
        simp (maxSteps := 2000000) only [push_cast, seval, ↓kw2, m0, t0, t3, t5, t6, t7, d1, hlen, hxi, hcy, heq, aBinAgg, hap, w2]
        repeat (first | refine ⟨hbb, ?_⟩ | refine ⟨apC_of (by rw [List.length_map]; omega) (by decide), ?_⟩)
        exact ih (n - 1) (by omega) _ _ ⟨i + 1, es ++ [y], _, true, by omega, hne', by rw [List.append_assoc]; exact hes, by rw [List.map_append]; exact apHk_own, ownNe (by omega), (apHk_get hl0 ho0).trans m0, t0, t3, rfl, t6, rfl⟩
  · have d1 : decide ((i : Int) < (l.length : Int)) = false := decide_eq_false (by omega)
    rw [List.drop_eq_nil_of_le (by omega)] at hes
    rw [List.take_of_length_le (by omega)] at hne
    have hput : putL lessP l x = outL lessP x l false := by rw [putL, if_neg (fun h => hne x h rfl)]
    rw [hput, ← hes]
    cases d
    · skip
      refine goN ?_
      simp (maxSteps := 2000000) only [push_cast, seval, ↓kw2, m0, t0, t3, t5, t6, t7, d1, hlen, hap]
      repeat (first | refine ⟨apC_of (by rw [List.length_map]; omega) (by decide), ?_⟩)
      refine ⟨_, rfl, 2, ?_⟩
      rw [show outL lessP x [] false = [x] from rfl, List.map_append]
      exact apHk_own.frz (by
        have := purL_map Plc.av (es ++ [x]) Plc.pur
        rw [List.map_append] at this
        exact this)
    · skip
      refine goN ?_
      simp (maxSteps := 2000000) only [push_cast, seval, ↓kw2, m0, t0, t3, t5, t6, t7, d1, hlen]
      refine ⟨_, rfl, 2, ?_⟩
      rw [show outL lessP x [] true = [] from rfl, List.append_nil]
      exact hown.frz (purL_map Plc.av _ Plc.pur)
end Go.Ab.Pd

set_option linter.unusedSimpArgs false
set_option linter.unusedVariables false
namespace Go.Ab.Pd
open Go.Proofs
theorem e11 : Ent Tryz.prog 11 Tryz.f11 [] 2 := ⟨Tryz.func11, rfl, by decide, by kernel_rfl, by kernel_rfl, by decide, by kernel_rfl⟩
attribute [push_cast] Tryz.f11
set_option maxHeartbeats 8000000 in
set_option maxRecDepth 400000 in
theorem spotsMany_pur (a b c : Int) (w : Wnt) : Pur Tryz.prog GG 11 [.agg [I a, I b, I c], w.av] (.tup [I (if dwchk a b c w.p w.q w.r = 0 then ((wholeL a b c w).length : Int) else 0), I (dwchk a b c w.p w.q w.r)]) := by
  show Pur Tryz.prog GG 11 [.agg [I a, I b, I c], WT w.p w.q w.r w.s w.t w.u w.v] _
  by_cases h : dwchk a b c w.p w.q w.r = 0
  · rw [if_pos h]
    obtain ⟨hd, hw⟩ := dwchk_ok.1 h
    refine goQ e11 S4_ok 0 ?_
    simp (maxSteps := 2000000) only [push_cast, seval, ↓kw2, h]
    refine whole_ac hd w hw ?_
    intro H1 s hseg _ _ _
    have hlen : aLen Tryz.prog 34 s = some ((wholeL a b c w).length : Int) := by
      generalize wholeL a b c w = L at hseg
      cases hseg with
      | nil => exact ln34
      | row h hn => rw [← hn]; exact ls34 _ _ _ _
    refine goW S4_ok [] 0 ?_
    simp (maxSteps := 2000000) only [push_cast, seval, ↓kw2, hlen]
    exact ⟨_, rfl, done_pur rfl rfl⟩
  · rw [if_neg h]
    refine goQ e11 S4_ok 0 ?_
    simp (maxSteps := 2000000) only [push_cast, seval, ↓kw2, h]
    exact ⟨_, rfl, done_pur rfl rfl⟩
end Go.Ab.Pd

set_option linter.unusedSimpArgs false
set_option linter.unusedVariables false
namespace Go.Ab.Pd
open Go.Proofs
def dd {α : Type} [DecidableEq α] : List α → List α
  | [] => []
  | x :: l => if x ∈ dd l then dd l else x :: dd l
end Go.Ab.Pd

set_option linter.unusedSimpArgs false
set_option linter.unusedVariables false
namespace Go.Ab.Pd
open Go.Proofs
theorem turns_t {w : Wnt} (hv : w.v = true) {t : Wnt} : t ∈ w.turns ↔ ∃ i, i < 6 ∧ t = w.rot i := by
  unfold Wnt.turns
  rw [if_pos hv, Wnt.all_mem]
theorem e13 : Ent Tryz.prog 13 Tryz.f13 [] 2 := ⟨Tryz.func13, rfl, by decide, by kernel_rfl, by kernel_rfl, by decide, by kernel_rfl⟩
attribute [push_cast] Tryz.f13
set_option maxHeartbeats 4000000 in
set_option maxRecDepth 400000 in
theorem same12 {s r : AV} {l : List Plc} (hs : IsSl s (l.map Plc.av)) (hr : IsSl r (l.map Plc.av)) (hl : l.length ≤ 2 ^ 20) : Pur Tryz.prog GG 13 [s, r] (B true) := by
  have hs0 : s.pur = true := hs.pur (purL_map Plc.av _ fun _ => rfl)
  have hr0 : r.pur = true := hr.pur (purL_map Plc.av _ fun _ => rfl)
  have hs1 := hs.len (P := Tryz.prog) un34
  have hr1 := hr.len (P := Tryz.prog) un34
  rw [List.length_map] at hs1 hr1
  refine goQ e13 TOk.nil 0 ?_ (by simp [AV.purL, AV.pur, hs0, hr0])
  simp (maxSteps := 2000000) only [push_cast, seval, ↓kw2, hs1, hr1]
  have hidx := fun {u : AV} (hu : IsSl u (l.map Plc.av)) (i : Nat) (hi : i < l.length) (H : List AO) => hu.idx (P := Tryz.prog) un34 sz32 (i := (i : Int)) (by rw [List.length_map]; omega) (by omega) H
  refine FW.loopInv (fun m ts H => ∃ i : Nat, i + m = l.length ∧ ts 0 = s ∧ ts 1 = r ∧ ts 5 = I (i : Int)) l.length ⟨0, by omega, rfl, rfl, rfl⟩ ?_
  rintro m ih ts H ⟨i, hi, t0, t1, t5⟩
  refine FW.inLoop ?_
  by_cases hlt : i < l.length
  · have hd1 : decide ((i : Int) < (l.length : Int)) = true := by simp [hlt]
    have hx := hidx hs i hlt
    have hy := hidx hr i hlt
    have hgy := getD_map Plc.av l default hlt
    simp only [Int.toNat_natCast] at hx hy
    rw [hgy] at hx hy
    generalize l.getD i default = y at hx hy hgy
    have hcy := Plc.cells y
    have heq : aEqS Tryz.prog 32 (.agg [I y.x, I y.y, I y.z, I y.p, I y.q, I y.r, B y.s, B y.t, B y.u]) (.agg [I y.x, I y.y, I y.z, I y.p, I y.q, I y.r, B y.s, B y.t, B y.u]) = some (decide (y = y)) := Plc.eq y y
    rw [decide_eq_true rfl] at heq
    have hbb : (0 ≤ (i : Int) ∧ (i : Int) < ((List.map Plc.av l).length : Int)) := ⟨by omega, by rw [List.length_map]; omega⟩
    refine goN ?_
    simp (maxSteps := 2000000) only [push_cast, seval, ↓kw2, t0, t1, t5, hs1, hr1, hd1, hx, hy, hcy, heq, aBinAgg]
    refine ⟨hbb, hbb, ?_⟩
    refine goN ?_
    simp (maxSteps := 2000000) only [push_cast, seval, ↓kw2, t0, t1, t5, hs1, hr1, hd1, hx, hy, hcy, heq, aBinAgg]
    rw [wrapL (n := (i : Int) + 1) (by omega) (by omega)]
    exact ih (m - 1) (by omega) _ _ ⟨i + 1, by omega, t0, t1, rfl⟩
  · have hd1 : decide ((i : Int) < (l.length : Int)) = false := by simp; omega
    refine goN ?_
    simp (maxSteps := 2000000) only [push_cast, seval, ↓kw2, t0, t1, t5, hs1, hr1, hd1]
    exact ⟨_, rfl, done_pur rfl rfl⟩
end Go.Ab.Pd

set_option linter.unusedSimpArgs false
set_option linter.unusedVariables false
namespace Go.Ab.Pd
open Go.Proofs
theorem drawT {T : Tab} (hT : TOk Tryz.prog GG T) (ord : List Nat) {ops : Array Oper} (hB : ordB ops (fun _ => false) ord = true) {rd : Option Nat} {n id : Nat} {k : List Item} {ts : Nat → AV} {H : List AO} {Q : Lv → (Nat → AV) → List AO → Prop}
    (h : symR Tryz.prog GG T ops (fun _ ts H => FW Tryz.prog GG rd n k ts H Q) true ord ts H) : FW Tryz.prog GG rd n (.code (.region id ops true) :: k) ts H Q :=
  FW.drawOrd hmix hB (symR_runR hT (fun _ _ h => h) _ _ _ h)
theorem e102 : Ent Tryz.prog 102 Tryz.f102 [1,2] 3 := ⟨Tryz.func102, rfl, by decide, by kernel_rfl, by kernel_rfl, by decide, by kernel_rfl⟩
attribute [push_cast] Tryz.f102
set_option maxHeartbeats 4000000 in
set_option maxRecDepth 400000 in
theorem swapped01 (p q r : Int) (s t u v : Bool) : Pur Tryz.prog GG 102 [WT p q r s t u v, I 0, I 1] (WT q p r t s u v) := by
  refine goQ e102 TOk.nil 0 ?_
  simp (maxSteps := 2000000) only [push_cast, seval, ↓kw2]
  refine drawT TOk.nil [0, 1, 2, 3, 4, 5, 6, 7, 8, 9, 10, 11, 13, 12, 14, 15] (by kernel_rfl) ?_
  simp (maxSteps := 2000000) only [push_cast, seval, ↓kw2]
  refine goW TOk.nil [1,2] 0 ?_
  simp (maxSteps := 2000000) only [push_cast, seval, ↓kw2]
  refine drawT TOk.nil [0, 1, 2, 3, 4, 5, 6, 7, 8, 9, 10, 11, 13, 12, 14, 15] (by kernel_rfl) ?_
  simp (maxSteps := 2000000) only [push_cast, seval, ↓kw2]
  refine goW TOk.nil [1,2] 0 ?_
  simp (maxSteps := 2000000) only [push_cast, seval, ↓kw2]
  exact ⟨_, rfl, done_pur rfl rfl⟩
set_option maxHeartbeats 4000000 in
set_option maxRecDepth 400000 in
theorem swapped02 (p q r : Int) (s t u v : Bool) : Pur Tryz.prog GG 102 [WT p q r s t u v, I 0, I 2] (WT r q p u t s v) := by
  refine goQ e102 TOk.nil 0 ?_
  simp (maxSteps := 2000000) only [push_cast, seval, ↓kw2]
  refine drawT TOk.nil [0, 1, 2, 3, 4, 5, 6, 7, 8, 9, 10, 11, 13, 12, 14, 15] (by kernel_rfl) ?_
  simp (maxSteps := 2000000) only [push_cast, seval, ↓kw2]
  refine goW TOk.nil [1,2] 0 ?_
  simp (maxSteps := 2000000) only [push_cast, seval, ↓kw2]
  refine drawT TOk.nil [0, 1, 2, 3, 4, 5, 6, 7, 8, 9, 10, 11, 13, 12, 14, 15] (by kernel_rfl) ?_
  simp (maxSteps := 2000000) only [push_cast, seval, ↓kw2]
  refine goW TOk.nil [1,2] 0 ?_
  simp (maxSteps := 2000000) only [push_cast, seval, ↓kw2]
  exact ⟨_, rfl, done_pur rfl rfl⟩
set_option maxHeartbeats 4000000 in
set_option maxRecDepth 400000 in
theorem swapped12 (p q r : Int) (s t u v : Bool) : Pur Tryz.prog GG 102 [WT p q r s t u v, I 1, I 2] (WT p r q s u t v) := by
  refine goQ e102 TOk.nil 0 ?_
  simp (maxSteps := 2000000) only [push_cast, seval, ↓kw2]
  refine drawT TOk.nil [0, 1, 2, 3, 4, 5, 6, 7, 8, 9, 10, 11, 13, 12, 14, 15] (by kernel_rfl) ?_
  simp (maxSteps := 2000000) only [push_cast, seval, ↓kw2]
  refine goW TOk.nil [1,2] 0 ?_
  simp (maxSteps := 2000000) only [push_cast, seval, ↓kw2]
  refine drawT TOk.nil [0, 1, 2, 3, 4, 5, 6, 7, 8, 9, 10, 11, 13, 12, 14, 15] (by kernel_rfl) ?_
  simp (maxSteps := 2000000) only [push_cast, seval, ↓kw2]
  refine goW TOk.nil [1,2] 0 ?_
  simp (maxSteps := 2000000) only [push_cast, seval, ↓kw2]
  exact ⟨_, rfl, done_pur rfl rfl⟩
def gswap : List AV → Option (Prop × AV)
  | [.agg [.c (.int .i64 p), .c (.int .i64 q), .c (.int .i64 r), .c (.bool s), .c (.bool t), .c (.bool u), .c (.bool v)], .c (.int .i64 i), .c (.int .i64 k)] => some ((i = 0 ∧ k = 1) ∨ (i = 0 ∧ k = 2) ∨ (i = 1 ∧ k = 2), if i = 0 then (if k = 1 then WT q p r t s u v else WT r q p u t s v) else WT p r q s u t v)
  | _ => none
theorem gswap_ok : ∀ args p, gswap args = some p → p.1 → Pur Tryz.prog GG 102 args p.2 := by
  intro args p hp hc
  unfold gswap at hp
  split at hp
  · cases hp
    rcases hc with ⟨rfl, rfl⟩ | ⟨rfl, rfl⟩ | ⟨rfl, rfl⟩
    · exact swapped01 _ _ _ _ _ _ _
    · exact swapped02 _ _ _ _ _ _ _
    · exact swapped12 _ _ _ _ _ _ _
  · cases hp
attribute [push_cast] gswap
@[push_cast] def Q12 : Tab := Tab.ext Q11 102 gswap
theorem Q12_ok : TOk Tryz.prog GG Q12 := TOk.ext Q11_ok gswap_ok
def swaps (w : Wnt) : List Wnt := [w.rot 2, w.rot 5, w.rot 1, w.rot 3, w.rot 4]
def turnsR (w : Wnt) : List Wnt := if w.v = true then (swaps w).foldl (putL lessW) [w] else [w]
theorem foldP_mem {x : Wnt} : ∀ (l s : List Wnt), x ∈ l.foldl (putL lessW) s ↔ x ∈ s ∨ x ∈ l
  | [], s => by simp
  | y :: l, s => by
    rw [List.foldl_cons, foldP_mem l, putL_mem, List.mem_cons]
    constructor
    · rintro ((h | h) | h)
      · exact .inr (.inl h)
      · exact .inl h
      · exact .inr (.inr h)
    · rintro (h | h | h)
      · exact .inl (.inr h)
      · exact .inl (.inl h)
      · exact .inr h
theorem foldP_len : ∀ (l s : List Wnt), (l.foldl (putL lessW) s).length ≤ s.length + l.length
  | [], s => by simp
  | y :: l, s => by
    have := foldP_len l (putL lessW s y)
    have h2 : (putL lessW s y).length ≤ s.length + 1 := by rw [putL_len]; split <;> omega
    rw [List.foldl_cons, List.length_cons]
    omega
theorem turnsR_mem (w x : Wnt) : x ∈ turnsR w ↔ x ∈ w.turns := by
  cases hv : w.v
  · unfold turnsR Wnt.turns
    rw [hv, if_neg (by decide), if_neg (by decide)]
  · rw [turns_t hv, turnsR, if_pos hv, foldP_mem]
    simp only [swaps, List.mem_cons, List.not_mem_nil, or_false]
    constructor
    · rintro (rfl | rfl | rfl | rfl | rfl | rfl)
      · exact ⟨0, by decide, rfl⟩
      · exact ⟨2, by decide, rfl⟩
      · exact ⟨5, by decide, rfl⟩
      · exact ⟨1, by decide, rfl⟩
      · exact ⟨3, by decide, rfl⟩
      · exact ⟨4, by decide, rfl⟩
    · rintro ⟨i, hi, rfl⟩
      have hs : i = 0 ∨ i = 1 ∨ i = 2 ∨ i = 3 ∨ i = 4 ∨ i = 5 := by omega
      rcases hs with rfl | rfl | rfl | rfl | rfl | rfl
      · exact .inl rfl
      · exact .inr (.inr (.inr (.inl rfl)))
      · exact .inr (.inl rfl)
      · exact .inr (.inr (.inr (.inr (.inl rfl))))
      · exact .inr (.inr (.inr (.inr (.inr rfl))))
      · exact .inr (.inr (.inl rfl))
theorem turnsR_len (w : Wnt) : (turnsR w).length ≤ 6 := by
  unfold turnsR
  split
  · exact foldP_len _ _
  · simp
theorem e45 : Ent Tryz.prog 45 Tryz.f45 [4] 1 := ⟨Tryz.func45, rfl, by decide, by kernel_rfl, by kernel_rfl, by decide, by kernel_rfl⟩
attribute [push_cast] Tryz.f45
set_option maxHeartbeats 4000000 in
set_option maxRecDepth 400000 in
theorem turns04 (w : Wnt) : Pur Tryz.prog GG 45 [w.av] (frS ((turnsR w).map Wnt.av)) := by
  obtain ⟨p, q, r, s, t, u, v⟩ := w
  show Pur Tryz.prog GG 45 [WT p q r s t u v] _
  cases v
  · skip
    refine goQ e45 Q12_ok 0 ?_
    simp (maxSteps := 2000000) only [push_cast, seval, ↓kw2]
    exact ⟨_, rfl, 3, rfl⟩
  · skip
    refine goQ e45 Q12_ok 0 ?_
    simp (maxSteps := 2000000) only [push_cast, seval, ↓kw2]
    refine drawT Q12_ok [0, 2, 4, 6, 9, 14, 1, 3, 5, 7, 8, 10, 11, 12, 13] (by kernel_rfl) ?_
    simp (maxSteps := 2000000) only [push_cast, seval, ↓kw2]
    refine goW Q12_ok [4] 1 ?_
    simp (maxSteps := 2000000) only [push_cast, seval, ↓kw2]
    have hp1 := put04 (l := [⟨p, q, r, s, t, u, true⟩]) ((⟨p, q, r, s, t, u, true⟩ : Wnt).rot 2) (by simp)
    refine OwnK.freeze (k := 7) (pre := []) (post := [WT q p r t s u true]) (s := .sl 1 0 1 1) (es := [WT p q r s t u true]) (OwnK.row (k := 7) (id := 1) (es := [WT p q r s t u true]) rfl (by simp)) rfl ?_
    intro H' hk
    refine AC.pur hp1 ?_
    have hk2 := hk 2 (by simp [ownId])
    refine goW Q12_ok [4] 0 ?_
    simp (maxSteps := 2000000) only [push_cast, seval, ↓kw2]
    generalize hw : (⟨p, q, r, s, t, u, true⟩ : Wnt) = w
    have hT : turnsR w = ((swaps w).take 5).foldl (putL lessW) [w] := by rw [← hw]; rfl
    have hwr : ∀ i, (w.rot i).av = ((⟨p, q, r, s, t, u, true⟩ : Wnt).rot i).av := fun i => by rw [hw]
    refine FW.loopInv (fun n ts H => ∃ i : Int, i + (n : Int) = 5 ∧ 1 ≤ i ∧ H[2]? = some (.arr 7 [WT q p r t s u true, WT r q p u t s true, WT p r q s u t true, WT q r p t u s true, WT r p q u s t true]) ∧ ts 3 = frS ((((swaps w).take i.toNat).foldl (putL lessW) [w]).map Wnt.av) ∧ ts 24 = .sl 2 0 5 5 ∧ ts 25 = I 5 ∧ ts 26 = I i) 4
      ⟨1, by omega, by omega, hk2.trans rfl, by rw [← hw]; rfl, rfl, rfl, rfl⟩ ?_
    clear hk hk2 hp1
    rintro n ih ts H ⟨i, hi, hi1, m2, t3, t24, t25, t26⟩
    refine FW.inLoop ?_
    have hl2 := lt_of_get m2
    have hfl := foldP_len ((swaps w).take i.toNat) [w]
    have hfl2 : ((swaps w).take i.toNat).length ≤ 5 := by rw [List.length_take]; exact Nat.min_le_right _ _
    simp only [List.length_singleton] at hfl
    have hcs : i = 1 ∨ i = 2 ∨ i = 3 ∨ i = 4 ∨ i = 5 := by omega
    rcases hcs with rfl | rfl | rfl | rfl | rfl
    · have hp := put04 (w.rot 5) (show (((swaps w).take (1 : Int).toNat).foldl (putL lessW) [w]).length ≤ 2 ^ 19 by omega)
      rw [hwr] at hp
      refine goW Q12_ok [4] 0 ?_
      simp (maxSteps := 2000000) only [push_cast, seval, ↓kw2, t3, t24, t25, t26, m2, getA0, setA0]
      refine AC.pur hp ?_
      refine goW Q12_ok [4] 0 ?_
      simp (maxSteps := 2000000) only [push_cast, seval, ↓kw2, t3, t24, t25, t26]
      exact ih (n - 1) (by omega) _ _ ⟨2, by omega, by omega, (List.getElem?_append_left hl2).trans m2, rfl, t24, t25, rfl⟩
    · have hp := put04 (w.rot 1) (show (((swaps w).take (2 : Int).toNat).foldl (putL lessW) [w]).length ≤ 2 ^ 19 by omega)
      rw [hwr] at hp
      refine goW Q12_ok [4] 0 ?_
      simp (maxSteps := 2000000) only [push_cast, seval, ↓kw2, t3, t24, t25, t26, m2, getA0, setA0]
      refine AC.pur hp ?_
      refine goW Q12_ok [4] 0 ?_
      simp (maxSteps := 2000000) only [push_cast, seval, ↓kw2, t3, t24, t25, t26]
      exact ih (n - 1) (by omega) _ _ ⟨3, by omega, by omega, (List.getElem?_append_left hl2).trans m2, rfl, t24, t25, rfl⟩
    · have hp := put04 (w.rot 3) (show (((swaps w).take (3 : Int).toNat).foldl (putL lessW) [w]).length ≤ 2 ^ 19 by omega)
      rw [hwr] at hp
      refine goW Q12_ok [4] 0 ?_
      simp (maxSteps := 2000000) only [push_cast, seval, ↓kw2, t3, t24, t25, t26, m2, getA0, setA0]
      refine AC.pur hp ?_
      refine goW Q12_ok [4] 0 ?_
      simp (maxSteps := 2000000) only [push_cast, seval, ↓kw2, t3, t24, t25, t26]
      exact ih (n - 1) (by omega) _ _ ⟨4, by omega, by omega, (List.getElem?_append_left hl2).trans m2, rfl, t24, t25, rfl⟩
    · have hp := put04 (w.rot 4) (show (((swaps w).take (4 : Int).toNat).foldl (putL lessW) [w]).length ≤ 2 ^ 19 by omega)
      rw [hwr] at hp
      refine goW Q12_ok [4] 0 ?_
      simp (maxSteps := 2000000) only [push_cast, seval, ↓kw2, t3, t24, t25, t26, m2, getA0, setA0]
      refine AC.pur hp ?_
      refine goW Q12_ok [4] 0 ?_
      simp (maxSteps := 2000000) only [push_cast, seval, ↓kw2, t3, t24, t25, t26]
      exact ih (n - 1) (by omega) _ _ ⟨5, by omega, by omega, (List.getElem?_append_left hl2).trans m2, rfl, t24, t25, rfl⟩
    · skip
      refine goW Q12_ok [4] 0 ?_
      simp (maxSteps := 2000000) only [push_cast, seval, ↓kw2, t3, t24, t25, t26]
      exact ⟨_, rfl, done_pur (frS_pur (purL_map Wnt.av _ Wnt.pur)) (by rw [hT])⟩
end Go.Ab.Pd
