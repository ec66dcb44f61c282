/- One of the texts that this claim stands on. -/
import Derived.Test.YtnfnhccebebflaaGreatEv41
set_option linter.unusedVariables false
set_option linter.unusedSimpArgs false
set_option linter.unusedSimpArgs false
set_option linter.unusedVariables false
namespace Go.Ab.Pd
open Go.Proofs
theorem e34 : Ent Tryz.prog 34 Tryz.f34 [] 2 := ⟨Tryz.func34, rfl, by decide, by kernel_rfl, by kernel_rfl, by decide, by kernel_rfl⟩
attribute [push_cast] Tryz.f34
set_option maxHeartbeats 4000000 in
set_option maxRecDepth 400000 in
theorem may12 (a b c p q r : Int) (s t u v : Bool) : Pur Tryz.prog GG 34 [.agg [I a, I b, I c], WT p q r s t u v] (B (decide (okD a b c ∧ okW p q r))) := by
  refine goQ e34 Q12_ok 0 ?_
  simp (maxSteps := 2000000) only [push_cast, seval, ↓kw2]
  by_cases h1 : okD a b c <;> by_cases h2 : okW p q r
  all_goals
    simp only [h1, h2, decide_true, decide_false, true_and, false_and, and_self]
    refine ⟨fun hh => ?_, fun hh => ?_⟩ <;> first | exact (hh trivial).elim | exact hh.elim | exact ⟨_, rfl, done_pur rfl rfl⟩
theorem e44 : Ent Tryz.prog 44 Tryz.f44 [] 2 := ⟨Tryz.func44, rfl, by decide, by kernel_rfl, by kernel_rfl, by decide, by kernel_rfl⟩
attribute [push_cast] Tryz.f44
set_option maxHeartbeats 8000000 in
set_option maxRecDepth 400000 in
theorem of12 (w : Wnt) (X : Plc) : Pur Tryz.prog GG 44 [w.av, X.av] (B ((turnsR w).any fun t => decide (isT t X))) := by
  have hT := turns04 w
  have hLl := turnsR_len w
  generalize turnsR w = L at hT hLl
  have hL : IsSl (frS (L.map Wnt.av)) (L.map Wnt.av) := IsSl.frS _
  generalize frS (L.map Wnt.av) = sl at hT hL
  have hlen := hL.len (P := Tryz.prog) un97
  rw [List.length_map] at hlen
  have hidx := fun (i : Nat) (hi : i < L.length) (H : List AO) => hL.idx (P := Tryz.prog) un97 sz26 (i := (i : Int)) (by rw [List.length_map]; omega) (by omega) H
  obtain ⟨x, y, z, xp, xq, xr, xs, xt, xu⟩ := X
  obtain ⟨wp, wq, wr, ws, wt, wu, wv⟩ := w
  show Pur Tryz.prog GG 44 [WT wp wq wr ws wt wu wv, PL x y z xp xq xr xs xt xu] _
  refine goQ e44 TOk.nil 0 ?_
  simp (maxSteps := 2000000) only [push_cast, seval, ↓kw2]
  refine AC.pur hT ?_
  refine goN ?_
  simp (maxSteps := 2000000) only [push_cast, seval, ↓kw2]
  refine FW.loopInv (fun n ts H => ∃ i : Nat, i + n = L.length ∧ ((L.drop i).any fun t => decide (isT t ⟨x, y, z, xp, xq, xr, xs, xt, xu⟩)) = (L.any fun t => decide (isT t ⟨x, y, z, xp, xq, xr, xs, xt, xu⟩)) ∧ H = [.cells [I wp, I wq, I wr, B ws, B wt, B wu, B wv], .cells [I x, I y, I z, I xp, I xq, I xr, B xs, B xt, B xu]] ∧ ts 3 = .ptr 1 0 ∧ ts 5 = sl ∧ ts 6 = I (i : Int)) L.length
    ⟨0, by omega, rfl, rfl, rfl, rfl, rfl⟩ ?_
  rintro n ih ts H ⟨i, hi, hf, rfl, t3, t5, t6⟩
  refine FW.inLoop ?_
  have w2 := wrapL (n := (i : Int) + 1) (by omega) (by omega)
  by_cases hlt : i < L.length
  · have d0 : decide ((i : Int) < (L.length : Int)) = true := decide_eq_true (by omega)
    have hx := hidx i hlt
    simp only [Int.toNat_natCast] at hx
    rw [getD_map Wnt.av L default hlt] at hx
    rw [drop_cons default hlt, List.any_cons] at hf
    generalize L.getD i default = τ at hx hf
    obtain ⟨p, q, r, s, t, u, v⟩ := τ
    have hcy : (Wnt.mk p q r s t u v).av.cells = [I p, I q, I r, B s, B t, B u, B v] := rfl
    rw [hcy] at hx
    have hbb : (0 ≤ (i : Int) ∧ (i : Int) < ((L.map Wnt.av).length : Int)) := ⟨by omega, by rw [List.length_map]; omega⟩
    obtain ⟨a0, h0⟩ : ∃ a0, a0 = (decide (p = xp) && (torV s p == xs)) := ⟨_, rfl⟩
    obtain ⟨a1, h1⟩ : ∃ a1, a1 = (decide (q = xq) && (torV t q == xt)) := ⟨_, rfl⟩
    obtain ⟨a2, h2⟩ : ∃ a2, a2 = (decide (r = xr) && (torV u r == xu)) := ⟨_, rfl⟩
    have hT3 : decide (isT ⟨p, q, r, s, t, u, v⟩ ⟨x, y, z, xp, xq, xr, xs, xt, xu⟩) = (a0 && (a1 && a2)) := by
      rw [h0, h1, h2, Bool.eq_iff_iff, decide_eq_true_iff]
      show ((p = xp ∧ q = xq ∧ r = xr) ∧ (torV s p = xs ∧ torV t q = xt ∧ torV u r = xu)) ↔ _
      simp only [Bool.and_eq_true, decide_eq_true_eq, beq_iff_eq]
      exact ⟨fun ⟨⟨e1, e2, e3⟩, e4, e5, e6⟩ => ⟨⟨e1, e4⟩, ⟨e2, e5⟩, e3, e6⟩, fun ⟨⟨e1, e4⟩, ⟨e2, e5⟩, e3, e6⟩ => ⟨⟨e1, e2, e3⟩, e4, e5, e6⟩⟩
    rw [hT3] at hf
    obtain ⟨S, hS0, hS1, hS2, hS3⟩ : ∃ S : Int → Bool, S 0 = true ∧ S 1 = a0 ∧ S 2 = (a0 && a1) ∧ S 3 = (a0 && (a1 && a2)) := ⟨fun k => if k = 0 then true else if k = 1 then a0 else if k = 2 then (a0 && a1) else (a0 && (a1 && a2)), rfl, rfl, rfl, rfl⟩
    refine goN ?_
    simp (maxSteps := 2000000) only [push_cast, seval, ↓kw2, t3, t5, t6, d0, hlen]
    refine FW.loopInv (fun l ts H => ∃ k : Int, k + (l : Int) = 3 ∧ 0 ≤ k ∧ H = [.cells [I wp, I wq, I wr, B ws, B wt, B wu, B wv], .cells [I x, I y, I z, I xp, I xq, I xr, B xs, B xt, B xu]] ∧ ts 3 = .ptr 1 0 ∧ ts 5 = sl ∧ ts 6 = I (i : Int) ∧ ts 7 = B (S k) ∧ ts 8 = I k) 3
      ⟨0, by omega, by omega, rfl, t3, t5, t6, by rw [hS0]; rfl, rfl⟩ ?_
    clear t3 t5 t6 ts
    rintro l ihl ts H ⟨k, hk, hk0, rfl, t3, t5, t6, t7, t8⟩
    refine FW.inLoop ?_
    have hcs : k = 0 ∨ k = 1 ∨ k = 2 ∨ k = 3 := by omega
    rcases hcs with rfl | rfl | rfl | rfl
    · by_cases e1 : p = xp
      · have d1 : decide (p ≠ xp) = false := by simp [e1]
        cases s
        · cases xs
          all_goals
            simp only [e1, torV, decide_true, Bool.true_and, Bool.false_and, beq_self_eq_true, show (false == true) = false from rfl] at h0
            refine goN ?_
            simp (maxSteps := 2000000) only [push_cast, seval, ↓kw2, t3, t5, t6, t7, t8, hx, d1, bne_tt, bne_ff, bne_tf, bne_ft]
            repeat (first | refine ⟨hbb, ?_⟩)
            exact ihl (l - 1) (by omega) _ _ ⟨1, by omega, by omega, rfl, t3, t5, t6, by first | (refine t7.trans (congrArg B ?_); simp [hS0, hS1, hS2, hS3, h0, h1, h2]; done) | (refine congrArg B ?_; simp [hS0, hS1, hS2, hS3, h0, h1, h2]; done), rfl⟩
        · by_cases e2 : 1 < p
          · have d2 := decide_eq_true e2
            have d3 : decide (1 < xp) = true := decide_eq_true (by omega)
            cases xs
            all_goals
              simp only [e1, torV, d3, decide_true, Bool.true_and, Bool.false_and, beq_self_eq_true, show (true == false) = false from rfl] at h0
              refine goN ?_
              simp (maxSteps := 2000000) only [push_cast, seval, ↓kw2, t3, t5, t6, t7, t8, hx, d1, d2, bne_tt, bne_ff, bne_tf, bne_ft]
              repeat (first | refine ⟨hbb, ?_⟩)
              exact ihl (l - 1) (by omega) _ _ ⟨1, by omega, by omega, rfl, t3, t5, t6, by first | (refine t7.trans (congrArg B ?_); simp [hS0, hS1, hS2, hS3, h0, h1, h2]; done) | (refine congrArg B ?_; simp [hS0, hS1, hS2, hS3, h0, h1, h2]; done), rfl⟩
          · have d2 := decide_eq_false e2
            have d3 : decide (1 < xp) = false := decide_eq_false (by omega)
            cases xs
            all_goals
              simp only [e1, d3, torV, decide_true, decide_false, Bool.true_and, Bool.false_and, Bool.and_false, beq_self_eq_true, show (false == true) = false from rfl] at h0
              refine goN ?_
              simp (maxSteps := 2000000) only [push_cast, seval, ↓kw2, t3, t5, t6, t7, t8, hx, d1, d2, bne_tt, bne_ff, bne_tf, bne_ft]
              repeat (first | refine ⟨hbb, ?_⟩)
              exact ihl (l - 1) (by omega) _ _ ⟨1, by omega, by omega, rfl, t3, t5, t6, by first | (refine t7.trans (congrArg B ?_); simp [hS0, hS1, hS2, hS3, h0, h1, h2]; done) | (refine congrArg B ?_; simp [hS0, hS1, hS2, hS3, h0, h1, h2]; done), rfl⟩
      · have d1 : decide (p ≠ xp) = true := by simp [e1]
        rw [decide_eq_false e1, Bool.false_and] at h0
        refine goN ?_
        simp (maxSteps := 2000000) only [push_cast, seval, ↓kw2, t3, t5, t6, t7, t8, hx, d1]
        repeat (first | refine ⟨hbb, ?_⟩)
        exact ihl (l - 1) (by omega) _ _ ⟨1, by omega, by omega, rfl, t3, t5, t6, by first | (refine t7.trans (congrArg B ?_); simp [hS0, hS1, hS2, hS3, h0, h1, h2]; done) | (refine congrArg B ?_; simp [hS0, hS1, hS2, hS3, h0, h1, h2]; done), rfl⟩
    · by_cases e1 : q = xq
      · have d1 : decide (q ≠ xq) = false := by simp [e1]
        cases t
        · cases xt
          all_goals
            simp only [e1, torV, decide_true, Bool.true_and, Bool.false_and, beq_self_eq_true, show (false == true) = false from rfl] at h1
            refine goN ?_
            simp (maxSteps := 2000000) only [push_cast, seval, ↓kw2, t3, t5, t6, t7, t8, hx, d1, bne_tt, bne_ff, bne_tf, bne_ft]
            repeat (first | refine ⟨hbb, ?_⟩)
            exact ihl (l - 1) (by omega) _ _ ⟨2, by omega, by omega, rfl, t3, t5, t6, by first | (refine t7.trans (congrArg B ?_); simp [hS0, hS1, hS2, hS3, h0, h1, h2]; done) | (refine congrArg B ?_; simp [hS0, hS1, hS2, hS3, h0, h1, h2]; done), rfl⟩
        · by_cases e2 : 1 < q
          · have d2 := decide_eq_true e2
            have d3 : decide (1 < xq) = true := decide_eq_true (by omega)
            cases xt
            all_goals
              simp only [e1, torV, d3, decide_true, Bool.true_and, Bool.false_and, beq_self_eq_true, show (true == false) = false from rfl] at h1
              refine goN ?_
              simp (maxSteps := 2000000) only [push_cast, seval, ↓kw2, t3, t5, t6, t7, t8, hx, d1, d2, bne_tt, bne_ff, bne_tf, bne_ft]
              repeat (first | refine ⟨hbb, ?_⟩)
              exact ihl (l - 1) (by omega) _ _ ⟨2, by omega, by omega, rfl, t3, t5, t6, by first | (refine t7.trans (congrArg B ?_); simp [hS0, hS1, hS2, hS3, h0, h1, h2]; done) | (refine congrArg B ?_; simp [hS0, hS1, hS2, hS3, h0, h1, h2]; done), rfl⟩
          · have d2 := decide_eq_false e2
            have d3 : decide (1 < xq) = false := decide_eq_false (by omega)
            cases xt
            all_goals
              simp only [e1, d3, torV, decide_true, decide_false, Bool.true_and, Bool.false_and, Bool.and_false, beq_self_eq_true, show (false == true) = false from rfl] at h1
              refine goN ?_
              simp (maxSteps := 2000000) only [push_cast, seval, ↓kw2, t3, t5, t6, t7, t8, hx, d1, d2, bne_tt, bne_ff, bne_tf, bne_ft]
              repeat (first | refine ⟨hbb, ?_⟩)
              exact ihl (l - 1) (by omega) _ _ ⟨2, by omega, by omega, rfl, t3, t5, t6, by first | (refine t7.trans (congrArg B ?_); simp [hS0, hS1, hS2, hS3, h0, h1, h2]; done) | (refine congrArg B ?_; simp [hS0, hS1, hS2, hS3, h0, h1, h2]; done), rfl⟩
      · have d1 : decide (q ≠ xq) = true := by simp [e1]
        rw [decide_eq_false e1, Bool.false_and] at h1
        refine goN ?_
        simp (maxSteps := 2000000) only [push_cast, seval, ↓kw2, t3, t5, t6, t7, t8, hx, d1]
        repeat (first | refine ⟨hbb, ?_⟩)
        exact ihl (l - 1) (by omega) _ _ ⟨2, by omega, by omega, rfl, t3, t5, t6, by first | (refine t7.trans (congrArg B ?_); simp [hS0, hS1, hS2, hS3, h0, h1, h2]; done) | (refine congrArg B ?_; simp [hS0, hS1, hS2, hS3, h0, h1, h2]; done), rfl⟩
    · by_cases e1 : r = xr
      · have d1 : decide (r ≠ xr) = false := by simp [e1]
        cases u
        · cases xu
          all_goals
            simp only [e1, torV, decide_true, Bool.true_and, Bool.false_and, beq_self_eq_true, show (false == true) = false from rfl] at h2
            refine goN ?_
            simp (maxSteps := 2000000) only [push_cast, seval, ↓kw2, t3, t5, t6, t7, t8, hx, d1, bne_tt, bne_ff, bne_tf, bne_ft]
            repeat (first | refine ⟨hbb, ?_⟩)
            exact ihl (l - 1) (by omega) _ _ ⟨3, by omega, by omega, rfl, t3, t5, t6, by first | (refine t7.trans (congrArg B ?_); simp [hS0, hS1, hS2, hS3, h0, h1, h2]; done) | (refine congrArg B ?_; simp [hS0, hS1, hS2, hS3, h0, h1, h2]; done), rfl⟩
        · by_cases e2 : 1 < r
          · have d2 := decide_eq_true e2
            have d3 : decide (1 < xr) = true := decide_eq_true (by omega)
            cases xu
            all_goals
              simp only [e1, torV, d3, decide_true, Bool.true_and, Bool.false_and, beq_self_eq_true, show (true == false) = false from rfl] at h2
              refine goN ?_
              simp (maxSteps := 2000000) only [push_cast, seval, ↓kw2, t3, t5, t6, t7, t8, hx, d1, d2, bne_tt, bne_ff, bne_tf, bne_ft]
              repeat (first | refine ⟨hbb, ?_⟩)
              exact ihl (l - 1) (by omega) _ _ ⟨3, by omega, by omega, rfl, t3, t5, t6, by first | (refine t7.trans (congrArg B ?_); simp [hS0, hS1, hS2, hS3, h0, h1, h2]; done) | (refine congrArg B ?_; simp [hS0, hS1, hS2, hS3, h0, h1, h2]; done), rfl⟩
          · have d2 := decide_eq_false e2
            have d3 : decide (1 < xr) = false := decide_eq_false (by omega)
            cases xu
            all_goals
              simp only [e1, d3, torV, decide_true, decide_false, Bool.true_and, Bool.false_and, Bool.and_false, beq_self_eq_true, show (false == true) = false from rfl] at h2
              refine goN ?_
              simp (maxSteps := 2000000) only [push_cast, seval, ↓kw2, t3, t5, t6, t7, t8, hx, d1, d2, bne_tt, bne_ff, bne_tf, bne_ft]
              repeat (first | refine ⟨hbb, ?_⟩)
              exact ihl (l - 1) (by omega) _ _ ⟨3, by omega, by omega, rfl, t3, t5, t6, by first | (refine t7.trans (congrArg B ?_); simp [hS0, hS1, hS2, hS3, h0, h1, h2]; done) | (refine congrArg B ?_; simp [hS0, hS1, hS2, hS3, h0, h1, h2]; done), rfl⟩
      · have d1 : decide (r ≠ xr) = true := by simp [e1]
        rw [decide_eq_false e1, Bool.false_and] at h2
        refine goN ?_
        simp (maxSteps := 2000000) only [push_cast, seval, ↓kw2, t3, t5, t6, t7, t8, hx, d1]
        repeat (first | refine ⟨hbb, ?_⟩)
        exact ihl (l - 1) (by omega) _ _ ⟨3, by omega, by omega, rfl, t3, t5, t6, by first | (refine t7.trans (congrArg B ?_); simp [hS0, hS1, hS2, hS3, h0, h1, h2]; done) | (refine congrArg B ?_; simp [hS0, hS1, hS2, hS3, h0, h1, h2]; done), rfl⟩
    · rw [hS3] at t7
      cases hA : (a0 && (a1 && a2))
      · rw [hA] at t7
        rw [hA, Bool.false_or] at hf
        refine goN ?_
        simp (maxSteps := 2000000) only [push_cast, seval, ↓kw2, t3, t5, t6, t7, t8, w2]
        exact ih (n - 1) (by omega) _ _ ⟨i + 1, by omega, hf, rfl, t3, t5, rfl⟩
      · rw [hA] at t7
        rw [hA, Bool.true_or] at hf
        refine goN ?_
        simp (maxSteps := 2000000) only [push_cast, seval, ↓kw2, t3, t5, t6, t7, t8, w2]
        exact ⟨_, rfl, done_pur rfl (by rw [← hf])⟩
  · have d0 : decide ((i : Int) < (L.length : Int)) = false := decide_eq_false (by omega)
    rw [List.drop_eq_nil_of_le (by omega)] at hf
    refine goN ?_
    simp (maxSteps := 2000000) only [push_cast, seval, ↓kw2, t3, t5, t6, d0, hlen]
    exact ⟨_, rfl, done_pur rfl (by rw [← hf]; rfl)⟩
end Go.Ab.Pd

set_option linter.unusedSimpArgs false
set_option linter.unusedVariables false
namespace Go.Ab.Pd
open Go.Proofs
def stepH (a b c m : Int) (l : List Plc) (t : Wnt) : List Plc := if (plOf a b c t m).ok a b c then putL lessP l (plOf a b c t m) else l
theorem hereL_is (a b c m : Int) (L : List Wnt) : hereL a b c m L = L.foldl (stepH a b c m) [] := rfl
theorem stepH_len (a b c m : Int) (l : List Plc) (t : Wnt) : (stepH a b c m l t).length ≤ l.length + 1 := by
  unfold stepH
  split
  · rw [putL_len]; split <;> omega
  · omega
theorem everyL_succ (a b c : Int) (L : List Wnt) (n : Nat) : everyL a b c L (n + 1) = everyL a b c L n ++ hereL a b c (n : Int) L := by
  unfold everyL
  rw [List.range_succ, List.flatMap_append]
  simp
theorem everyL_len (a b c : Int) (L : List Wnt) (hL : L.length ≤ 6) (n : Nat) : (everyL a b c L n).length ≤ n * 6 := by
  unfold everyL
  have := flat_le2 (f := fun i : Nat => hereL a b c (i : Int) L) (k := 6) (l := List.range n) fun i _ => by
    have := here_len a b c (i : Int) L []
    simp only [List.length_nil, Nat.zero_add] at this
    exact Nat.le_trans this hL
  rwa [List.length_range] at this
theorem e94 : Ent Tryz.prog 94 Tryz.f94 [] 2 := ⟨Tryz.func94, rfl, by decide, by kernel_rfl, by kernel_rfl, by decide, by kernel_rfl⟩
attribute [push_cast] Tryz.f94
set_option maxHeartbeats 8000000 in
set_option maxRecDepth 400000 in
theorem every12 {a b c : Int} (hd : okD a b c) (w : Wnt) : Pur Tryz.prog GG 94 [.agg [I a, I b, I c], w.av] (frS ((everyL a b c (turnsR w) (a * b * c).toNat).map Plc.av)) := by
  have hT := turns04 w
  have hLl := turnsR_len w
  have hN := n01 a b c hd
  have hmu := okD_mul hd
  generalize turnsR w = L at hT hLl ⊢
  have hL : IsSl (frS (L.map Wnt.av)) (L.map Wnt.av) := IsSl.frS _
  generalize frS (L.map Wnt.av) = sl at hT hL
  have hlen := hL.len (P := Tryz.prog) un97
  rw [List.length_map] at hlen
  have hidx := fun (i : Nat) (hi : i < L.length) (H : List AO) => hL.idx (P := Tryz.prog) un97 sz26 (i := (i : Int)) (by rw [List.length_map]; omega) (by omega) H
  obtain ⟨wp, wq, wr, ws, wt, wu, wv⟩ := w
  show Pur Tryz.prog GG 94 [.agg [I a, I b, I c], WT wp wq wr ws wt wu wv] _
  refine goQ e94 TOk.nil 0 ?_
  simp (maxSteps := 2000000) only [push_cast, seval, ↓kw2]
  refine AC.pur hT ?_
  refine goN ?_
  simp (maxSteps := 2000000) only [push_cast, seval, ↓kw2]
  refine FW.loopInv (fun n ts H => ∃ (m : Nat) (o : AV), m + n = (a * b * c).toNat ∧ OwnK 9 H o ((everyL a b c L m).map Plc.av) ∧ ownId o ≠ some 0 ∧ ownId o ≠ some 1 ∧ H[0]? = some (.cells [I a, I b, I c]) ∧ H[1]? = some (.cells [I wp, I wq, I wr, B ws, B wt, B wu, B wv]) ∧ ts 2 = .ptr 0 0 ∧ ts 3 = .ptr 1 0 ∧ ts 5 = o ∧ ts 6 = sl ∧ ts 7 = I (m : Int)) (a * b * c).toNat
    ⟨0, _, by omega, .nil, by simp [ownId], by simp [ownId], rfl, rfl, rfl, rfl, rfl, rfl, rfl⟩ ?_
  rintro n ih ts H ⟨m, o, hm, hown, ho0, ho1, m0, m1, t2, t3, t5, t6, t7⟩
  refine FW.inLoop ?_
  have w2 := wrapL (n := (m : Int) + 1) (by omega) (by omega)
  by_cases hlt : (m : Int) < a * b * c
  · have d1 : decide ((m : Int) < a * b * c) = true := decide_eq_true hlt
    refine goN ?_
    simp (maxSteps := 2000000) only [push_cast, seval, ↓kw2, m0, m1, t2, t3, t5, t6, t7]
    refine AC.pur hN ?_
    refine goN ?_
    simp (maxSteps := 2000000) only [push_cast, seval, ↓kw2, m0, m1, t2, t3, t5, t6, t7, d1]
    have hsc := everyL_succ a b c L m
    rw [hereL_is] at hsc
    refine FW.loopInv (fun l ts H => ∃ i : Nat, i + l = L.length ∧ OwnK 9 H o ((everyL a b c L m).map Plc.av) ∧ H[0]? = some (.cells [I a, I b, I c]) ∧ H[1]? = some (.cells [I wp, I wq, I wr, B ws, B wt, B wu, B wv]) ∧ ts 2 = .ptr 0 0 ∧ ts 3 = .ptr 1 0 ∧ ts 5 = o ∧ ts 6 = sl ∧ ts 7 = I (m : Int) ∧
      (∃ h : List Plc, h.length ≤ i ∧ (L.drop i).foldl (stepH a b c m) h = L.foldl (stepH a b c m) [] ∧ ts 8 = frS (h.map Plc.av)) ∧ ts 9 = I (i : Int)) L.length
      ⟨0, by omega, hown, m0, m1, t2, t3, t5, t6, t7, ⟨[], by simp, rfl, rfl⟩, rfl⟩ ?_
    clear hown m0 m1 t2 t3 t5 t6 t7 ts H
    rintro l ihl ts H ⟨i, hi, hown, m0, m1, t2, t3, t5, t6, t7, ⟨h, hhl, hh, t8⟩, t9⟩
    refine FW.inLoop ?_
    have w3 := wrapL (n := (i : Int) + 1) (by omega) (by omega)
    have hl0 := lt_of_get m0
    have hl1 := lt_of_get m1
    by_cases hil : i < L.length
    · have d2 : decide ((i : Int) < (L.length : Int)) = true := decide_eq_true (by omega)
      have hx := hidx i hil
      simp only [Int.toNat_natCast] at hx
      rw [getD_map Wnt.av L default hil] at hx
      rw [drop_cons default hil, List.foldl_cons] at hh
      generalize L.getD i default = τ at hx hh
      have hhs : stepH a b c m h τ = if (plOf a b c τ m).ok a b c then putL lessP h (plOf a b c τ m) else h := rfl
      have hsl := stepH_len a b c m h τ
      obtain ⟨p, q, r, s, t, u, v⟩ := τ
      have hcy : (Wnt.mk p q r s t u v).av.cells = [I p, I q, I r, B s, B t, B u, B v] := rfl
      rw [hcy] at hx
      have hbb : (0 ≤ (i : Int) ∧ (i : Int) < ((L.map Wnt.av).length : Int)) := ⟨by omega, by rw [List.length_map]; omega⟩
      have hW := where01 a b c m ⟨hd, by omega, hlt⟩
      refine goN ?_
      simp (maxSteps := 2000000) only [push_cast, seval, ↓kw2, m0, m1, t2, t3, t5, t6, t7, t8, t9, d2, hlen, hx]
      refine ⟨_, toVP hW, ?_⟩
      simp (maxSteps := 2000000) only [push_cast, seval, ↓kw2, m0, m1, t2, t3, t5, t6, t7, t8, t9, d2, hlen, hx, getA0, setA0]
      repeat (first | refine ⟨hbb, ?_⟩)
      refine FW.loopInv (fun l3 ts H2 => ∃ (k : Int) (g0 g1 g2 : Bool), k + (l3 : Int) = 3 ∧ 0 ≤ k ∧ (0 < k → g0 = torV s p) ∧ (1 < k → g1 = torV t q) ∧ (2 < k → g2 = torV u r) ∧ H2 = H ++ [.cells [I (ofX a b c m), I (ofY a b c m), I (ofZ a b c m), I p, I q, I r, B g0, B g1, B g2]] ∧ ts 2 = .ptr 0 0 ∧ ts 3 = .ptr 1 0 ∧ ts 5 = o ∧ ts 6 = sl ∧ ts 7 = I (m : Int) ∧ ts 8 = frS (h.map Plc.av) ∧ ts 9 = I (i : Int) ∧ ts 10 = .ptr H.length 0 ∧ ts 11 = I k) 3
        ⟨0, false, false, false, by omega, by omega, fun h => by omega, fun h => by omega, fun h => by omega, rfl, t2, t3, t5, t6, t7, t8, t9, rfl, rfl⟩ ?_
      clear t2 t3 t5 t6 t7 t8 t9 ts
      rintro l3 ih3 ts H2 ⟨k, g0, g1, g2, hk, hk0, q0, q1, q2, rfl, t2, t3, t5, t6, t7, t8, t9, t10, t11⟩
      refine FW.inLoop ?_
      have hcs : k = 0 ∨ k = 1 ∨ k = 2 ∨ k = 3 := by omega
      rcases hcs with rfl | rfl | rfl | rfl
      · cases hS : s
        · skip
          refine goN ?_
          simp (maxSteps := 2000000) only [push_cast, seval, ↓kw2, t2, t3, t5, t6, t7, t8, t9, t10, t11, hx, hS, getA0, setA0]
          repeat (first | refine ⟨hbb, ?_⟩)
          refine ih3 (l3 - 1) (by omega) _ _ ⟨1, _, _, _, by omega, by omega, ?_, ?_, ?_, rfl, t2, t3, t5, t6, t7, t8, t9, t10, rfl⟩
          all_goals first | exact fun h => absurd h (by decide) | exact fun _ => q0 (by decide) | exact fun _ => q1 (by decide) | (intro _; simp [torV, hS]; done) | (intro _; simp [torV, hS, e2]; done) | (intro _; simp [torV, hS]; omega)
        · by_cases e2 : 1 < p
          · have d3 : decide (1 < p) = true := decide_eq_true e2
            refine goN ?_
            simp (maxSteps := 2000000) only [push_cast, seval, ↓kw2, t2, t3, t5, t6, t7, t8, t9, t10, t11, hx, hS, d3, getA0, setA0]
            repeat (first | refine ⟨hbb, ?_⟩)
            refine ih3 (l3 - 1) (by omega) _ _ ⟨1, _, _, _, by omega, by omega, ?_, ?_, ?_, rfl, t2, t3, t5, t6, t7, t8, t9, t10, rfl⟩
            all_goals first | exact fun h => absurd h (by decide) | exact fun _ => q0 (by decide) | exact fun _ => q1 (by decide) | (intro _; simp [torV, hS]; done) | (intro _; simp [torV, hS, e2]; done) | (intro _; simp [torV, hS]; omega)
          · have d3 : decide (1 < p) = false := decide_eq_false e2
            refine goN ?_
            simp (maxSteps := 2000000) only [push_cast, seval, ↓kw2, t2, t3, t5, t6, t7, t8, t9, t10, t11, hx, hS, d3, getA0, setA0]
            repeat (first | refine ⟨hbb, ?_⟩)
            refine ih3 (l3 - 1) (by omega) _ _ ⟨1, _, _, _, by omega, by omega, ?_, ?_, ?_, rfl, t2, t3, t5, t6, t7, t8, t9, t10, rfl⟩
            all_goals first | exact fun h => absurd h (by decide) | exact fun _ => q0 (by decide) | exact fun _ => q1 (by decide) | (intro _; simp [torV, hS]; done) | (intro _; simp [torV, hS, e2]; done) | (intro _; simp [torV, hS]; omega)
      · cases hS : t
        · skip
          refine goN ?_
          simp (maxSteps := 2000000) only [push_cast, seval, ↓kw2, t2, t3, t5, t6, t7, t8, t9, t10, t11, hx, hS, getA0, setA0]
          repeat (first | refine ⟨hbb, ?_⟩)
          refine ih3 (l3 - 1) (by omega) _ _ ⟨2, _, _, _, by omega, by omega, ?_, ?_, ?_, rfl, t2, t3, t5, t6, t7, t8, t9, t10, rfl⟩
          all_goals first | exact fun h => absurd h (by decide) | exact fun _ => q0 (by decide) | exact fun _ => q1 (by decide) | (intro _; simp [torV, hS]; done) | (intro _; simp [torV, hS, e2]; done) | (intro _; simp [torV, hS]; omega)
        · by_cases e2 : 1 < q
          · have d3 : decide (1 < q) = true := decide_eq_true e2
            refine goN ?_
            simp (maxSteps := 2000000) only [push_cast, seval, ↓kw2, t2, t3, t5, t6, t7, t8, t9, t10, t11, hx, hS, d3, getA0, setA0]
            repeat (first | refine ⟨hbb, ?_⟩)
            refine ih3 (l3 - 1) (by omega) _ _ ⟨2, _, _, _, by omega, by omega, ?_, ?_, ?_, rfl, t2, t3, t5, t6, t7, t8, t9, t10, rfl⟩
            all_goals first | exact fun h => absurd h (by decide) | exact fun _ => q0 (by decide) | exact fun _ => q1 (by decide) | (intro _; simp [torV, hS]; done) | (intro _; simp [torV, hS, e2]; done) | (intro _; simp [torV, hS]; omega)
          · have d3 : decide (1 < q) = false := decide_eq_false e2
            refine goN ?_
            simp (maxSteps := 2000000) only [push_cast, seval, ↓kw2, t2, t3, t5, t6, t7, t8, t9, t10, t11, hx, hS, d3, getA0, setA0]
            repeat (first | refine ⟨hbb, ?_⟩)
            refine ih3 (l3 - 1) (by omega) _ _ ⟨2, _, _, _, by omega, by omega, ?_, ?_, ?_, rfl, t2, t3, t5, t6, t7, t8, t9, t10, rfl⟩
            all_goals first | exact fun h => absurd h (by decide) | exact fun _ => q0 (by decide) | exact fun _ => q1 (by decide) | (intro _; simp [torV, hS]; done) | (intro _; simp [torV, hS, e2]; done) | (intro _; simp [torV, hS]; omega)
      · cases hS : u
        · skip
          refine goN ?_
          simp (maxSteps := 2000000) only [push_cast, seval, ↓kw2, t2, t3, t5, t6, t7, t8, t9, t10, t11, hx, hS, getA0, setA0]
          repeat (first | refine ⟨hbb, ?_⟩)
          refine ih3 (l3 - 1) (by omega) _ _ ⟨3, _, _, _, by omega, by omega, ?_, ?_, ?_, rfl, t2, t3, t5, t6, t7, t8, t9, t10, rfl⟩
          all_goals first | exact fun h => absurd h (by decide) | exact fun _ => q0 (by decide) | exact fun _ => q1 (by decide) | (intro _; simp [torV, hS]; done) | (intro _; simp [torV, hS, e2]; done) | (intro _; simp [torV, hS]; omega)
        · by_cases e2 : 1 < r
          · have d3 : decide (1 < r) = true := decide_eq_true e2
            refine goN ?_
            simp (maxSteps := 2000000) only [push_cast, seval, ↓kw2, t2, t3, t5, t6, t7, t8, t9, t10, t11, hx, hS, d3, getA0, setA0]
            repeat (first | refine ⟨hbb, ?_⟩)
            refine ih3 (l3 - 1) (by omega) _ _ ⟨3, _, _, _, by omega, by omega, ?_, ?_, ?_, rfl, t2, t3, t5, t6, t7, t8, t9, t10, rfl⟩
            all_goals first | exact fun h => absurd h (by decide) | exact fun _ => q0 (by decide) | exact fun _ => q1 (by decide) | (intro _; simp [torV, hS]; done) | (intro _; simp [torV, hS, e2]; done) | (intro _; simp [torV, hS]; omega)
          · have d3 : decide (1 < r) = false := decide_eq_false e2
            refine goN ?_
            simp (maxSteps := 2000000) only [push_cast, seval, ↓kw2, t2, t3, t5, t6, t7, t8, t9, t10, t11, hx, hS, d3, getA0, setA0]
            repeat (first | refine ⟨hbb, ?_⟩)
            refine ih3 (l3 - 1) (by omega) _ _ ⟨3, _, _, _, by omega, by omega, ?_, ?_, ?_, rfl, t2, t3, t5, t6, t7, t8, t9, t10, rfl⟩
            all_goals first | exact fun h => absurd h (by decide) | exact fun _ => q0 (by decide) | exact fun _ => q1 (by decide) | (intro _; simp [torV, hS]; done) | (intro _; simp [torV, hS, e2]; done) | (intro _; simp [torV, hS]; omega)
      · obtain rfl : g0 = torV s p := q0 (by omega)
        obtain rfl : g1 = torV t q := q1 (by omega)
        obtain rfl : g2 = torV u r := q2 (by omega)
        have hM := may06 a b c (ofX a b c m) (ofY a b c m) (ofZ a b c m) p q r (torV s p) (torV t q) (torV u r) hd
        refine goN ?_
        simp (maxSteps := 2000000) only [push_cast, seval, ↓kw2, t2, t3, t5, t6, t7, t8, t9, t10, t11, hx, getA0, setA0, List.getElem?_append_left hl0, m0]
        refine AC.pur hM ?_
        by_cases hk : (plOf a b c ⟨p, q, r, s, t, u, v⟩ m).ok a b c
        · have d3 := decide_eq_true hk
          rw [if_pos hk] at hhs
          rw [hhs] at hh
          have hP := put12 (l := h) (plOf a b c ⟨p, q, r, s, t, u, v⟩ m) (by omega)
          rw [show decide (okPl a b c (ofX a b c m) (ofY a b c m) (ofZ a b c m) p q r (torV s p) (torV t q) (torV u r)) = true from d3]
          refine goN ?_
          simp (maxSteps := 2000000) only [push_cast, seval, ↓kw2, t2, t3, t5, t6, t7, t8, t9, t10, t11, getA0, setA0, w3]
          refine AC.pur hP ?_
          refine goN ?_
          simp (maxSteps := 2000000) only [push_cast, seval, ↓kw2, t2, t3, t5, t6, t7, t8, t9, t10, t11, getA0, setA0, w3]
          exact ihl (l - 1) (by omega) _ _ ⟨i + 1, by omega, hown.append _, (List.getElem?_append_left hl0).trans m0, (List.getElem?_append_left hl1).trans m1, t2, t3, t5, t6, t7, ⟨_, by rw [← hhs]; omega, hh, rfl⟩, rfl⟩
        · have d3 := decide_eq_false hk
          rw [if_neg hk] at hhs
          rw [hhs] at hh
          rw [show decide (okPl a b c (ofX a b c m) (ofY a b c m) (ofZ a b c m) p q r (torV s p) (torV t q) (torV u r)) = false from d3]
          refine goN ?_
          simp (maxSteps := 2000000) only [push_cast, seval, ↓kw2, t2, t3, t5, t6, t7, t8, t9, t10, t11, getA0, setA0, w3]
          exact ihl (l - 1) (by omega) _ _ ⟨i + 1, by omega, hown.append _, (List.getElem?_append_left hl0).trans m0, (List.getElem?_append_left hl1).trans m1, t2, t3, t5, t6, t7, ⟨h, by omega, hh, t8⟩, rfl⟩
    · have d2 : decide ((i : Int) < (L.length : Int)) = false := decide_eq_false (by omega)
      rw [List.drop_eq_nil_of_le (by omega)] at hh
      have hh' : h = L.foldl (stepH a b c m) [] := hh
      rw [← hh'] at hsc
      have hev := everyL_len a b c L hLl m
      obtain ⟨CC, hap, hCC⟩ := aAppFK (P := Tryz.prog) (k := 9) un34 un34 ze32 rfl by32 hown (l := h.map Plc.av) (fun x hx => by obtain ⟨y, _, rfl⟩ := List.mem_map.1 hx; rfl)
      refine goN ?_
      simp (maxSteps := 2000000) only [push_cast, seval, ↓kw2, t2, t3, t5, t6, t7, t8, t9, d2, hlen, hap, w2]
      refine ⟨hCC (by rw [List.length_map, List.length_map]; omega) (by rw [List.length_map, List.length_map]; omega), ?_⟩
      exact ih (n - 1) (by omega) _ _ ⟨m + 1, _, by omega, by rw [hsc, List.map_append]; exact apSs_ownK hown, ownId_apSs hl0 ho0, ownId_apSs hl1 ho1, (apHsK_get hl0 ho0).trans m0, (apHsK_get hl1 ho1).trans m1, t2, t3, rfl, t6, rfl⟩
  · have d1 : decide ((m : Int) < a * b * c) = false := decide_eq_false hlt
    have hme : m = (a * b * c).toNat := by omega
    rw [hme] at hown
    refine goN ?_
    simp (maxSteps := 2000000) only [push_cast, seval, ↓kw2, m0, m1, t2, t3, t5, t6, t7]
    refine AC.pur hN ?_
    refine goN ?_
    simp (maxSteps := 2000000) only [push_cast, seval, ↓kw2, m0, m1, t2, t3, t5, t6, t7, d1]
    exact ⟨_, rfl, 2, hown.frz (purL_map Plc.av _ Plc.pur)⟩
theorem e37 : Ent Tryz.prog 37 Tryz.f37 [] 4 := ⟨Tryz.func37, rfl, by decide, by kernel_rfl, by kernel_rfl, by decide, by kernel_rfl⟩
attribute [push_cast] Tryz.f37
set_option maxHeartbeats 8000000 in
set_option maxRecDepth 400000 in
theorem clear12 {a b c : Int} (hd : okD a b c) (w : Wnt) {s r : AV} {xs ys : List Int} (hs : IsSl s (xs.map U)) (hr : IsSl r (ys.map U)) (hx : ∀ w ∈ xs, inU w) (hy : ∀ w ∈ ys, inU w) (hl : xs.length ≤ 2 ^ 12) (hl2 : ys.length ≤ 2 ^ 12) :
    Pur Tryz.prog GG 37 [.agg [I a, I b, I c], w.av, s, r] (frS (((wholeL a b c w).filter (holdV a b c xs ys)).map Plc.av)) := by
  have hps := hs.pur (purL_map U _ fun _ => rfl)
  have hpr := hr.pur (purL_map U _ fun _ => rfl)
  have hE := every12 hd w
  rw [every_whole hd (turnsR_mem w)] at hE
  have hle := whole_le hd w
  have hok : ∀ x ∈ wholeL a b c w, x.ok a b c := fun x hx => ((wholeL_mem hd).1 hx).1
  have hmu := okD_mul hd
  generalize wholeL a b c w = l at hE hle hok ⊢
  have hL : IsSl (frS (l.map Plc.av)) (l.map Plc.av) := IsSl.frS _
  generalize frS (l.map Plc.av) = sl at hE hL
  have hlen := hL.len (P := Tryz.prog) un34
  rw [List.length_map] at hlen
  have hidx := fun (i : Nat) (hi : i < l.length) (H : List AO) => hL.idx (P := Tryz.prog) un34 sz32 (i := (i : Int)) (by rw [List.length_map]; omega) (by omega) H
  obtain ⟨wp, wq, wr, ws, wt, wu, wv⟩ := w
  show Pur Tryz.prog GG 37 [.agg [I a, I b, I c], WT wp wq wr ws wt wu wv, s, r] _
  refine goQ e37 TOk.nil 0 ?_ (by simp [AV.purL, AV.pur, hps, hpr])
  simp (maxSteps := 2000000) only [push_cast, seval, ↓kw2]
  refine AC.pur hE ?_
  refine goN ?_
  simp (maxSteps := 2000000) only [push_cast, seval, ↓kw2]
  refine FW.loopInv (fun n ts H => ∃ (i : Nat) (es : List Plc) (o : AV), i + n = l.length ∧ es ++ (l.drop i).filter (holdV a b c xs ys) = l.filter (holdV a b c xs ys) ∧ OwnK 9 H o (es.map Plc.av) ∧ ownId o ≠ some 0 ∧ H[0]? = some (.cells [I a, I b, I c]) ∧ ts 2 = s ∧ ts 3 = r ∧ ts 4 = .ptr 0 0 ∧ ts 9 = o ∧ ts 10 = sl ∧ ts 11 = I (i : Int)) l.length
    ⟨0, [], _, by omega, rfl, .nil, by simp [ownId], rfl, rfl, rfl, rfl, rfl, rfl, rfl⟩ ?_
  rintro n ih ts H ⟨i, es, o, hi, hes, hown, ho0, m0, t2, t3, t4, t9, t10, t11⟩
  refine FW.inLoop ?_
  have w2 := wrapL (n := (i : Int) + 1) (by omega) (by omega)
  have hl0 := lt_of_get m0
  by_cases hlt : i < l.length
  · have d1 : decide ((i : Int) < (l.length : Int)) = true := decide_eq_true (by omega)
    have hxi := hidx i hlt
    simp only [Int.toNat_natCast] at hxi
    rw [getD_map Plc.av l default hlt] at hxi
    have hok1 := hok (l.getD i default) (by simp [List.getD, hlt])
    rw [drop_cons default hlt, List.filter_cons] at hes
    generalize l.getD i default = y at hxi hok1 hes
    have hcy := Plc.cells y
    rw [hcy] at hxi
    have hC := clear11 hs hr hx hy hl hl2 hok1
    have hbb : (0 ≤ (i : Int) ∧ (i : Int) < ((l.map Plc.av).length : Int)) := ⟨by omega, by rw [List.length_map]; omega⟩
    refine goN ?_
    simp (maxSteps := 2000000) only [push_cast, seval, ↓kw2, m0, t2, t3, t4, t9, t10, t11, hlen, d1, hxi]
    repeat (first | refine ⟨hbb, ?_⟩)
    refine ⟨_, toVP hC, ?_⟩
    cases hv : holdV a b c xs ys y
    · rw [hv, if_neg (by decide)] at hes
      simp (maxSteps := 2000000) only [push_cast, seval, ↓kw2, m0, t2, t3, t4, t9, t10, t11, hlen, d1, hxi, w2]
      exact ih (n - 1) (by omega) _ _ ⟨i + 1, es, o, by omega, hes, hown, ho0, m0, t2, t3, t4, t9, t10, rfl⟩
    · rw [hv, if_pos rfl] at hes
      have hle2 := len_le_of_append hes
      have hfl := List.length_filter_le (holdV a b c xs ys) l
      have hap := fun v => aAppK (P := Tryz.prog) (k := 9) un34 un34 ze32 rfl by32 hown v
      simp (maxSteps := 2000000) only [push_cast, seval, ↓kw2, m0, t2, t3, t4, t9, t10, t11, hlen, d1, hxi, w2, hap]
      repeat (first | refine ⟨hbb, ?_⟩ | refine ⟨apC_of (by rw [List.length_map]; omega) (by decide), ?_⟩)
      exact ih (n - 1) (by omega) _ _ ⟨i + 1, es ++ [y], _, by omega, by rw [List.append_assoc]; exact hes, by rw [List.map_append]; exact apHk_own, ownNe (by omega), (apHk_get hl0 ho0).trans m0, t2, t3, t4, rfl, t10, rfl⟩
  · have d1 : decide ((i : Int) < (l.length : Int)) = false := decide_eq_false (by omega)
    rw [List.drop_eq_nil_of_le (by omega), List.filter_nil, List.append_nil] at hes
    rw [← hes]
    refine goN ?_
    simp (maxSteps := 2000000) only [push_cast, seval, ↓kw2, m0, t2, t3, t4, t9, t10, t11, hlen, d1]
    exact ⟨_, rfl, 2, hown.frz (purL_map Plc.av _ Plc.pur)⟩
end Go.Ab.Pd

set_option linter.unusedSimpArgs false
set_option linter.unusedVariables false
namespace Go.Ab.Pd
open Go.Proofs
def stepS (S : List Plc) (t : Wnt) : List Plc := putL lessP S (typV t)
theorem seenL_is (L : List Wnt) : seenL L = L.foldl stepS [] := rfl
theorem e12 : Ent Tryz.prog 12 Tryz.f12 [] 2 := ⟨Tryz.func12, rfl, by decide, by kernel_rfl, by kernel_rfl, by decide, by kernel_rfl⟩
attribute [push_cast] Tryz.f12
set_option maxHeartbeats 8000000 in
set_option maxRecDepth 400000 in
theorem many12 {a b c : Int} (w : Wnt) : Pur Tryz.prog GG 12 [.agg [I a, I b, I c], w.av] (if okD a b c ∧ okW w.p w.q w.r then .tup [I (numR a b c (seenL (turnsR w))), I 0] else .tup [I 0, I 8]) := by
  obtain ⟨wp, wq, wr, ws, wt, wu, wv⟩ := w
  have hM := may12 a b c wp wq wr ws wt wu wv
  have hT := turns04 ⟨wp, wq, wr, ws, wt, wu, wv⟩
  have hLl := turnsR_len ⟨wp, wq, wr, ws, wt, wu, wv⟩
  show Pur Tryz.prog GG 12 [.agg [I a, I b, I c], WT wp wq wr ws wt wu wv] (if okD a b c ∧ okW wp wq wr then _ else _)
  by_cases hok : okD a b c ∧ okW wp wq wr
  · rw [if_pos hok]
    rw [decide_eq_true hok] at hM
    have hd := hok.1
    have hd' := hd
    unfold okD at hd'
    generalize turnsR ⟨wp, wq, wr, ws, wt, wu, wv⟩ = L at hT hLl ⊢
    have hL : IsSl (frS (L.map Wnt.av)) (L.map Wnt.av) := IsSl.frS _
    generalize frS (L.map Wnt.av) = sl at hT hL
    have hlen := hL.len (P := Tryz.prog) un97
    rw [List.length_map] at hlen
    have hidx := fun (i : Nat) (hi : i < L.length) (H : List AO) => hL.idx (P := Tryz.prog) un97 sz26 (i := (i : Int)) (by rw [List.length_map]; omega) (by omega) H
    rw [seenL_is]
    refine goQ e12 TOk.nil 0 ?_
    simp (maxSteps := 2000000) only [push_cast, seval, ↓kw2]
    refine AC.pur hM ?_
    refine goN ?_
    simp (maxSteps := 2000000) only [push_cast, seval, ↓kw2]
    refine AC.pur hT ?_
    refine goN ?_
    simp (maxSteps := 2000000) only [push_cast, seval, ↓kw2]
    refine FW.loopInv (fun n ts H => ∃ (i : Nat) (S : List Plc), i + n = L.length ∧ S.length ≤ i ∧ (L.drop i).foldl stepS S = L.foldl stepS [] ∧ H[0]? = some (.cells [I a, I b, I c]) ∧ ts 2 = .ptr 0 0 ∧ ts 6 = frS (S.map Plc.av) ∧ ts 7 = I (numR a b c S) ∧ ts 8 = sl ∧ ts 9 = I (i : Int)) L.length
      ⟨0, [], by omega, by simp, rfl, rfl, rfl, rfl, rfl, rfl, rfl⟩ ?_
    rintro n ih ts H ⟨i, S, hi, hSl, hS, m0, t2, t6, t7, t8, t9⟩
    refine FW.inLoop ?_
    have w2 := wrapL (n := (i : Int) + 1) (by omega) (by omega)
    have hl0 := lt_of_get m0
    by_cases hil : i < L.length
    · have d1 : decide ((i : Int) < (L.length : Int)) = true := decide_eq_true (by omega)
      have hx := hidx i hil
      simp only [Int.toNat_natCast] at hx
      rw [getD_map Wnt.av L default hil] at hx
      rw [drop_cons default hil, List.foldl_cons] at hS
      generalize L.getD i default = τ at hx hS
      have hnp := num_put hd S (typV τ)
      have hput := putL_len (less := lessP) (l := S) (p := typV τ)
      have hput2 : (putL lessP S (typV τ)).length ≤ S.length + 1 := by rw [hput]; split <;> omega
      have hP := put12 (l := S) (typV τ) (by omega)
      have hSt : stepS S τ = putL lessP S (typV τ) := rfl
      rw [hSt] at hS
      obtain ⟨p, q, r, s, t, u, v⟩ := τ
      have hcy : (Wnt.mk p q r s t u v).av.cells = [I p, I q, I r, B s, B t, B u, B v] := rfl
      rw [hcy] at hx
      have hbb : (0 ≤ (i : Int) ∧ (i : Int) < ((L.map Wnt.av).length : Int)) := ⟨by omega, by rw [List.length_map]; omega⟩
      refine goN ?_
      simp (maxSteps := 2000000) only [push_cast, seval, ↓kw2, m0, t2, t6, t7, t8, t9, d1, hlen, hx, getA0, setA0]
      repeat (first | refine ⟨hbb, ?_⟩)
      have b1 := lenB_le (n := a) (s := p) (by omega)
      have b2 := lenB_le (n := b) (s := q) (by omega)
      have b3 := lenB_le (n := c) (s := r) (by omega)
      have c1 : 0 ≤ lenB a p * lenB b q := Int.mul_nonneg (by omega) (by omega)
      have c2 : lenB a p * lenB b q ≤ 16 * 16 := Int.mul_le_mul b1.2 b2.2 (by omega) (by omega)
      have c3 : 0 ≤ lenB a p * lenB b q * lenB c r := Int.mul_nonneg c1 (by omega)
      have c4 : lenB a p * lenB b q * lenB c r ≤ 16 * 16 * 16 := Int.mul_le_mul c2 b3.2 (by omega) (by omega)
      obtain ⟨Ms, hM0, hM1, hM2, hM3⟩ : ∃ Ms : Int → Int, Ms 0 = 1 ∧ Ms 1 = lenB a p ∧ Ms 2 = lenB a p * lenB b q ∧ Ms 3 = lenB a p * lenB b q * lenB c r :=
        ⟨fun k => if k = 0 then 1 else if k = 1 then lenB a p else if k = 2 then lenB a p * lenB b q else lenB a p * lenB b q * lenB c r, rfl, rfl, rfl, rfl⟩
      refine FW.loopInv (fun l3 ts H2 => ∃ (k : Int) (g0 g1 g2 : Bool), k + (l3 : Int) = 3 ∧ 0 ≤ k ∧ (0 < k → g0 = torV s p) ∧ (1 < k → g1 = torV t q) ∧ (2 < k → g2 = torV u r) ∧ H2 = H ++ [.cells [I 0, I 0, I 0, I p, I q, I r, B g0, B g1, B g2]] ∧ ts 2 = .ptr 0 0 ∧ ts 6 = frS (S.map Plc.av) ∧ ts 7 = I (numR a b c S) ∧ ts 8 = sl ∧ ts 9 = I (i : Int) ∧ ts 10 = .ptr H.length 0 ∧ ts 11 = I (Ms k) ∧ ts 12 = I k) 3
        ⟨0, false, false, false, by omega, by omega, fun h => by omega, fun h => by omega, fun h => by omega, rfl, t2, t6, t7, t8, t9, rfl, by rw [hM0]; rfl, rfl⟩ ?_
      clear t2 t6 t7 t8 t9 ts
      rintro l3 ih3 ts H2 ⟨k, g0, g1, g2, hk, hk0, q0, q1, q2, rfl, t2, t6, t7, t8, t9, t10, t11, t12⟩
      refine FW.inLoop ?_
      have hcs : k = 0 ∨ k = 1 ∨ k = 2 ∨ k = 3 := by omega
      rcases hcs with rfl | rfl | rfl | rfl
      · have hms0 : Ms 1 = Ms 0 * lenB a p := by simp [hM0, hM1, hM2, hM3]
        have hms : Ms 1 = if p < a then Ms 0 * a else Ms 0 := by
          rw [hms0]
          unfold lenB
          split
          · rfl
          · rw [Int.mul_one]
        have hmb : 0 ≤ Ms 1 ∧ Ms 1 ≤ 4096 := by simp only [hM0, hM1, hM2, hM3]; omega
        by_cases e3 : p < a
        all_goals
          first
            | (have d4 := decide_eq_true e3; rw [if_pos e3] at hms)
            | (have d4 := decide_eq_false e3; rw [if_neg e3] at hms)
          have hmw := wrapL (n := Ms 1) (by omega) (by omega)
          rw [hms] at hmw
          cases hS' : s
          · skip
            refine goN ?_
            simp (maxSteps := 2000000) only [push_cast, seval, ↓kw2, m0, t2, t6, t7, t8, t9, t10, t11, t12, hx, hS', d4, hmw, getA0, setA0, List.getElem?_append_left hl0]
            repeat (first | refine ⟨hbb, ?_⟩)
            refine ih3 (l3 - 1) (by omega) _ _ ⟨1, _, _, _, by omega, by omega, ?_, ?_, ?_, rfl, t2, t6, t7, t8, t9, t10, ?_, rfl⟩
            all_goals first | exact fun h => absurd h (by decide) | exact fun _ => q0 (by decide) | exact fun _ => q1 (by decide) | (intro _; simp [torV, hS']; done) | (rw [hms]; first | exact t11 | rfl)
          · by_cases e2 : 1 < p
            all_goals
              first
                | have d3 := decide_eq_true e2
                | have d3 := decide_eq_false e2
              refine goN ?_
              simp (maxSteps := 2000000) only [push_cast, seval, ↓kw2, m0, t2, t6, t7, t8, t9, t10, t11, t12, hx, hS', d3, d4, hmw, getA0, setA0, List.getElem?_append_left hl0]
              repeat (first | refine ⟨hbb, ?_⟩)
              refine ih3 (l3 - 1) (by omega) _ _ ⟨1, _, _, _, by omega, by omega, ?_, ?_, ?_, rfl, t2, t6, t7, t8, t9, t10, ?_, rfl⟩
              all_goals first | exact fun h => absurd h (by decide) | exact fun _ => q0 (by decide) | exact fun _ => q1 (by decide) | (intro _; simp [torV, hS', e2]; done) | (intro _; simp [torV, hS']; omega) | (rw [hms]; first | exact t11 | rfl)
      · have hms0 : Ms 2 = Ms 1 * lenB b q := by simp [hM0, hM1, hM2, hM3]
        have hms : Ms 2 = if q < b then Ms 1 * b else Ms 1 := by
          rw [hms0]
          unfold lenB
          split
          · rfl
          · rw [Int.mul_one]
        have hmb : 0 ≤ Ms 2 ∧ Ms 2 ≤ 4096 := by simp only [hM0, hM1, hM2, hM3]; omega
        by_cases e3 : q < b
        all_goals
          first
            | (have d4 := decide_eq_true e3; rw [if_pos e3] at hms)
            | (have d4 := decide_eq_false e3; rw [if_neg e3] at hms)
          have hmw := wrapL (n := Ms 2) (by omega) (by omega)
          rw [hms] at hmw
          cases hS' : t
          · skip
            refine goN ?_
            simp (maxSteps := 2000000) only [push_cast, seval, ↓kw2, m0, t2, t6, t7, t8, t9, t10, t11, t12, hx, hS', d4, hmw, getA0, setA0, List.getElem?_append_left hl0]
            repeat (first | refine ⟨hbb, ?_⟩)
            refine ih3 (l3 - 1) (by omega) _ _ ⟨2, _, _, _, by omega, by omega, ?_, ?_, ?_, rfl, t2, t6, t7, t8, t9, t10, ?_, rfl⟩
            all_goals first | exact fun h => absurd h (by decide) | exact fun _ => q0 (by decide) | exact fun _ => q1 (by decide) | (intro _; simp [torV, hS']; done) | (rw [hms]; first | exact t11 | rfl)
          · by_cases e2 : 1 < q
            all_goals
              first
                | have d3 := decide_eq_true e2
                | have d3 := decide_eq_false e2
              refine goN ?_
              simp (maxSteps := 2000000) only [push_cast, seval, ↓kw2, m0, t2, t6, t7, t8, t9, t10, t11, t12, hx, hS', d3, d4, hmw, getA0, setA0, List.getElem?_append_left hl0]
              repeat (first | refine ⟨hbb, ?_⟩)
              refine ih3 (l3 - 1) (by omega) _ _ ⟨2, _, _, _, by omega, by omega, ?_, ?_, ?_, rfl, t2, t6, t7, t8, t9, t10, ?_, rfl⟩
              all_goals first | exact fun h => absurd h (by decide) | exact fun _ => q0 (by decide) | exact fun _ => q1 (by decide) | (intro _; simp [torV, hS', e2]; done) | (intro _; simp [torV, hS']; omega) | (rw [hms]; first | exact t11 | rfl)
      · have hms0 : Ms 3 = Ms 2 * lenB c r := by simp [hM0, hM1, hM2, hM3]
        have hms : Ms 3 = if r < c then Ms 2 * c else Ms 2 := by
          rw [hms0]
          unfold lenB
          split
          · rfl
          · rw [Int.mul_one]
        have hmb : 0 ≤ Ms 3 ∧ Ms 3 ≤ 4096 := by simp only [hM0, hM1, hM2, hM3]; omega
        by_cases e3 : r < c
        all_goals
          first
            | (have d4 := decide_eq_true e3; rw [if_pos e3] at hms)
            | (have d4 := decide_eq_false e3; rw [if_neg e3] at hms)
          have hmw := wrapL (n := Ms 3) (by omega) (by omega)
          rw [hms] at hmw
          cases hS' : u
          · skip
            refine goN ?_
            simp (maxSteps := 2000000) only [push_cast, seval, ↓kw2, m0, t2, t6, t7, t8, t9, t10, t11, t12, hx, hS', d4, hmw, getA0, setA0, List.getElem?_append_left hl0]
            repeat (first | refine ⟨hbb, ?_⟩)
            refine ih3 (l3 - 1) (by omega) _ _ ⟨3, _, _, _, by omega, by omega, ?_, ?_, ?_, rfl, t2, t6, t7, t8, t9, t10, ?_, rfl⟩
            all_goals first | exact fun h => absurd h (by decide) | exact fun _ => q0 (by decide) | exact fun _ => q1 (by decide) | (intro _; simp [torV, hS']; done) | (rw [hms]; first | exact t11 | rfl)
          · by_cases e2 : 1 < r
            all_goals
              first
                | have d3 := decide_eq_true e2
                | have d3 := decide_eq_false e2
              refine goN ?_
              simp (maxSteps := 2000000) only [push_cast, seval, ↓kw2, m0, t2, t6, t7, t8, t9, t10, t11, t12, hx, hS', d3, d4, hmw, getA0, setA0, List.getElem?_append_left hl0]
              repeat (first | refine ⟨hbb, ?_⟩)
              refine ih3 (l3 - 1) (by omega) _ _ ⟨3, _, _, _, by omega, by omega, ?_, ?_, ?_, rfl, t2, t6, t7, t8, t9, t10, ?_, rfl⟩
              all_goals first | exact fun h => absurd h (by decide) | exact fun _ => q0 (by decide) | exact fun _ => q1 (by decide) | (intro _; simp [torV, hS', e2]; done) | (intro _; simp [torV, hS']; omega) | (rw [hms]; first | exact t11 | rfl)
      · obtain rfl : g0 = torV s p := q0 (by omega)
        obtain rfl : g1 = torV t q := q1 (by omega)
        obtain rfl : g2 = torV u r := q2 (by omega)
        rw [hM3] at t11
        have hlS : aLen Tryz.prog 34 (frS (S.map Plc.av)) = some (S.length : Int) := by rw [aLen_frS un34, List.length_map]
        have hlM : aLen Tryz.prog 34 (frS ((putL lessP S (typV ⟨p, q, r, s, t, u, v⟩)).map Plc.av)) = some ((putL lessP S (typV ⟨p, q, r, s, t, u, v⟩)).length : Int) := by rw [aLen_frS un34, List.length_map]
        have hB := may02 a b c 0 0 0 p q r
        have hnl := num_le hd S
        have hw := wrapL (n := numR a b c S + lenB a p * lenB b q * lenB c r) (by omega) (by omega)
        have hnq : numR a b c (putL lessP S (typV ⟨p, q, r, s, t, u, v⟩)) = numR a b c S + if decide (okB a b c 0 0 0 p q r) = true ∧ S.length < (putL lessP S (typV ⟨p, q, r, s, t, u, v⟩)).length then lenB a p * lenB b q * lenB c r else 0 := hnp
        refine goN ?_
        simp (maxSteps := 2000000) only [push_cast, seval, ↓kw2, t2, t6, t7, t8, t9, t10, t11, t12, getA0, setA0, List.getElem?_append_left hl0, m0]
        refine AC.pur hP ?_
        refine goN ?_
        simp (maxSteps := 2000000) only [push_cast, seval, ↓kw2, t2, t6, t7, t8, t9, t10, t11, t12, getA0, setA0, List.getElem?_append_left hl0, m0]
        refine AC.pur hB ?_
        by_cases hf : okB a b c 0 0 0 p q r
        · rw [decide_eq_true hf]
          by_cases hg : S.length < (putL lessP S (typV ⟨p, q, r, s, t, u, v⟩)).length
          · rw [if_pos ⟨decide_eq_true hf, hg⟩] at hnq
            have d5 : decide ((S.length : Int) < ((putL lessP S (typV ⟨p, q, r, s, t, u, v⟩)).length : Int)) = true := decide_eq_true (by omega)
            refine goN ?_
            simp (maxSteps := 2000000) only [push_cast, seval, ↓kw2, t2, t6, t7, t8, t9, t10, t11, t12, hlS, hlM, d5, hw, w2]
            exact ih (n - 1) (by omega) _ _ ⟨i + 1, _, by omega, by omega, hS, (List.getElem?_append_left hl0).trans m0, t2, rfl, by rw [hnq]; rfl, t8, rfl⟩
          · rw [if_neg (fun h => hg h.2), Int.add_zero] at hnq
            have d5 : decide ((S.length : Int) < ((putL lessP S (typV ⟨p, q, r, s, t, u, v⟩)).length : Int)) = false := decide_eq_false (by omega)
            refine goN ?_
            simp (maxSteps := 2000000) only [push_cast, seval, ↓kw2, t2, t6, t7, t8, t9, t10, t11, t12, hlS, hlM, d5, w2]
            exact ih (n - 1) (by omega) _ _ ⟨i + 1, _, by omega, by omega, hS, (List.getElem?_append_left hl0).trans m0, t2, rfl, by rw [hnq]; exact t7, t8, rfl⟩
        · rw [decide_eq_false hf]
          rw [if_neg (fun h => hf (of_decide_eq_true h.1)), Int.add_zero] at hnq
          refine goN ?_
          simp (maxSteps := 2000000) only [push_cast, seval, ↓kw2, t2, t6, t7, t8, t9, t10, t11, t12, hlS, hlM, w2]
          exact ih (n - 1) (by omega) _ _ ⟨i + 1, _, by omega, by omega, hS, (List.getElem?_append_left hl0).trans m0, t2, rfl, by rw [hnq]; exact t7, t8, rfl⟩
    · have d1 : decide ((i : Int) < (L.length : Int)) = false := decide_eq_false (by omega)
      rw [List.drop_eq_nil_of_le (by omega)] at hS
      have hS' : S = L.foldl stepS [] := hS
      rw [← hS']
      refine goN ?_
      simp (maxSteps := 2000000) only [push_cast, seval, ↓kw2, m0, t2, t6, t7, t8, t9, d1, hlen]
      exact ⟨_, rfl, done_pur rfl rfl⟩
  · rw [if_neg hok]
    rw [decide_eq_false hok] at hM
    refine goQ e12 TOk.nil 0 ?_
    simp (maxSteps := 2000000) only [push_cast, seval, ↓kw2]
    refine AC.pur hM ?_
    refine goN ?_
    simp (maxSteps := 2000000) only [push_cast, seval, ↓kw2]
    exact ⟨_, rfl, done_pur rfl rfl⟩
end Go.Ab.Pd

set_option linter.unusedSimpArgs false
set_option linter.unusedVariables false
namespace Go.Ab.Pd
open Go.Proofs
theorem dw_ok {a b c p q r : Int} : dwchk a b c p q r = 0 ↔ okD a b c ∧ okW p q r := dwchk_ok
theorem dw_8 {a b c p q r : Int} (h : ¬(okD a b c ∧ okW p q r)) : dwchk a b c p q r = 8 := by
  unfold dwchk wchk
  by_cases h1 : okD a b c
  · rw [if_pos h1, if_neg (fun h2 => h ⟨h1, h2⟩)]
  · rw [if_neg h1]
theorem any_mem {α : Type} {l m : List α} (h : ∀ x, x ∈ l ↔ x ∈ m) (f : α → Bool) : l.any f = m.any f := by
  rw [Bool.eq_iff_iff, List.any_eq_true, List.any_eq_true]
  exact ⟨fun ⟨x, h1, h2⟩ => ⟨x, (h x).1 h1, h2⟩, fun ⟨x, h1, h2⟩ => ⟨x, (h x).2 h1, h2⟩⟩
theorem check_is {s : AV} {ws : List Int} (hs : IsSl s (ws.map U)) (hw : ∀ w ∈ ws, inU w) {n : Int} (hn : 1 ≤ n) : ∃ e, Pur Tryz.prog GG 29 [I n, s] (I e) ∧ (e = 0 ↔ schk n ws = 0) := by
  rcases hs with rfl | ⟨h0, rfl⟩
  · exact ⟨_, scheck_pur n ws, Iff.rfl⟩
  · have hws : ws = [] := List.map_eq_nil_iff.1 h0
    subst hws
    obtain ⟨e, h1, h2⟩ := check_ex IsSet.nil n
    refine ⟨e, h1, fun h => ?_, fun h => ?_⟩
    · obtain ⟨_, _, _, h3, _⟩ := h2 h
      cases h3
    · have := ((schk_bits hw).1 h).2.1
      simp only [List.length_nil] at this
      omega
theorem bad8 {a b c : Int} {w : Wnt} (h : ¬(okD a b c ∧ okW w.p w.q w.r)) : ¬dwchk a b c w.p w.q w.r = 0 := fun h2 => h (dw_ok.1 h2)
theorem e8 : Ent Tryz.prog 8 Tryz.f8 [] 4 := ⟨Tryz.func8, rfl, by decide, by kernel_rfl, by kernel_rfl, by decide, by kernel_rfl⟩
attribute [push_cast] Tryz.f8
set_option maxHeartbeats 8000000 in
set_option maxRecDepth 400000 in
theorem all_same {a b c : Int} (w : Wnt) {s r : AV} {xs ys : List Int} (hs : IsSl s (xs.map U)) (hr : IsSl r (ys.map U)) (hx : ∀ w ∈ xs, inU w) (hy : ∀ w ∈ ys, inU w) (hl : xs.length ≤ 2 ^ 12) (hl2 : ys.length ≤ 2 ^ 12) :
    ∃ (l : List Plc) (u v : AV) (e : Int), Pur Tryz.prog GG 7 [.agg [I a, I b, I c], w.av, s, r] (.tup [u, I e]) ∧ Pur Tryz.prog GG 8 [.agg [I a, I b, I c], w.av, s, r] (.tup [v, I e]) ∧ IsSl u (l.map Plc.av) ∧ IsSl v (l.map Plc.av) ∧ l.length ≤ 2 ^ 20 := by
  have hps := hs.pur (purL_map U _ fun _ => rfl)
  have hpr := hr.pur (purL_map U _ fun _ => rfl)
  have q1 : IsSet s := by
    rcases hs with rfl | ⟨h0, rfl⟩
    · exact .isl hx
    · exact .nil
  have q2 : IsSet r := by
    rcases hr with rfl | ⟨h0, rfl⟩
    · exact .isl hy
    · exact .nil
  have hM := may12 a b c w.p w.q w.r w.s w.t w.u w.v
  by_cases hok : okD a b c ∧ okW w.p w.q w.r
  · have hd := hok.1
    have hd' := hd
    unfold okD at hd'
    have hmu := okD_mul hd
    have hpos : 1 ≤ a * b * c := by
      have := Int.mul_pos (Int.mul_pos (show 0 < a by omega) (show 0 < b by omega)) (show 0 < c by omega)
      omega
    have hmv : manyV a b c = a * b * c := by rw [manyV, if_pos hd]
    have hN := n01 a b c hd
    have hdw := dw_ok.2 hok
    rw [decide_eq_true hok] at hM
    have w3 := wrapL (n := 3 * (a * b * c)) (by omega) (by omega)
    obtain ⟨e1, p1, i1⟩ := check_is hs hx (n := a * b * c) (by omega)
    obtain ⟨e2, p2, i2⟩ := check_is hr hy (n := 3 * (a * b * c)) (by omega)
    have m1 := may3_pur hs hx (by omega) (n := a * b * c) (by omega)
    have m2 := may3_pur hr hy (by omega) (n := 3 * (a * b * c)) (by omega)
    rw [← hmv] at p1 p2
    by_cases hc1 : schk (a * b * c) xs = 0
    · rw [decide_eq_true hc1] at m1
      by_cases hc2 : schk (3 * (a * b * c)) ys = 0
      · rw [decide_eq_true hc2] at m2
        have he1 := i1.2 hc1
        have he2 := i2.2 hc2
        rw [he1] at p1
        rw [he2] at p2
        have hs' : s = .isl (xs.map U) := by
          rcases hs with h | ⟨h0, _⟩
          · exact h
          · have hws : xs = [] := List.map_eq_nil_iff.1 h0
            subst hws
            have := ((schk_bits hx).1 hc1).2.1
            simp only [List.length_nil] at this
            omega
        have hr' : r = .isl (ys.map U) := by
          rcases hr with h | ⟨h0, _⟩
          · exact h
          · have hws : ys = [] := List.map_eq_nil_iff.1 h0
            subst hws
            have := ((schk_bits hy).1 hc2).2.1
            simp only [List.length_nil] at this
            omega
        have hA := spotsA_ok (hold := holdV a b c xs ys) w q1 q2 hdw p1 p2 fun x hx' => by
          rw [hs', hr']
          exact holds_is hx hy (by rw [hmv]; exact hc1) (by rw [hmv]; exact hc2) x hx'
        have hC := clear12 hd w hs hr hx hy hl hl2
        have hwl := whole_le hd w
        refine ⟨(wholeL a b c w).filter (holdV a b c xs ys), _, _, 0, hA, ?_, rsl_is _, IsSl.frS _, Nat.le_trans (List.length_filter_le _ _) (by omega)⟩
        generalize hF : frS (((wholeL a b c w).filter (holdV a b c xs ys)).map Plc.av) = F at hC
        have hFp : F.pur = true := by rw [← hF]; exact frS_pur (purL_map Plc.av _ Plc.pur)
        show Pur Tryz.prog GG 8 [.agg [I a, I b, I c], WT w.p w.q w.r w.s w.t w.u w.v, s, r] _
        refine goQ e8 TOk.nil 0 ?_ (by simp [AV.purL, AV.pur, hps, hpr])
        simp (maxSteps := 2000000) only [push_cast, seval, ↓kw2]
        refine AC.pur hM ?_
        refine goN ?_
        simp (maxSteps := 2000000) only [push_cast, seval, ↓kw2]
        refine AC.pur hN ?_
        refine goN ?_
        simp (maxSteps := 2000000) only [push_cast, seval, ↓kw2]
        refine AC.pur m1 ?_
        refine goN ?_
        simp (maxSteps := 2000000) only [push_cast, seval, ↓kw2, w3]
        refine AC.pur m2 ?_
        refine goN ?_
        simp (maxSteps := 2000000) only [push_cast, seval, ↓kw2]
        refine AC.pur hC ?_
        refine goN ?_
        simp (maxSteps := 2000000) only [push_cast, seval, ↓kw2]
        exact ⟨_, rfl, done_pur (by simp [AV.pur, AV.purL, hFp]) rfl⟩
      · rw [decide_eq_false hc2] at m2
        have hA := spotsA_sets w q1 q2 hdw p1 p2 fun h => hc2 (i2.1 h.2)
        refine ⟨[], _, _, 8, hA, ?_, .inr ⟨rfl, rfl⟩, .inr ⟨rfl, rfl⟩, by simp⟩
        show Pur Tryz.prog GG 8 [.agg [I a, I b, I c], WT w.p w.q w.r w.s w.t w.u w.v, s, r] _
        refine goQ e8 TOk.nil 0 ?_ (by simp [AV.purL, AV.pur, hps, hpr])
        simp (maxSteps := 2000000) only [push_cast, seval, ↓kw2]
        refine AC.pur hM ?_
        refine goN ?_
        simp (maxSteps := 2000000) only [push_cast, seval, ↓kw2]
        refine AC.pur hN ?_
        refine goN ?_
        simp (maxSteps := 2000000) only [push_cast, seval, ↓kw2]
        refine AC.pur m1 ?_
        refine goN ?_
        simp (maxSteps := 2000000) only [push_cast, seval, ↓kw2, w3]
        refine AC.pur m2 ?_
        refine goN ?_
        simp (maxSteps := 2000000) only [push_cast, seval, ↓kw2]
        exact ⟨_, rfl, done_pur rfl rfl⟩
    · rw [decide_eq_false hc1] at m1
      have hA := spotsA_sets w q1 q2 hdw p1 p2 fun h => hc1 (i1.1 h.1)
      refine ⟨[], _, _, 8, hA, ?_, .inr ⟨rfl, rfl⟩, .inr ⟨rfl, rfl⟩, by simp⟩
      show Pur Tryz.prog GG 8 [.agg [I a, I b, I c], WT w.p w.q w.r w.s w.t w.u w.v, s, r] _
      refine goQ e8 TOk.nil 0 ?_ (by simp [AV.purL, AV.pur, hps, hpr])
      simp (maxSteps := 2000000) only [push_cast, seval, ↓kw2]
      refine AC.pur hM ?_
      refine goN ?_
      simp (maxSteps := 2000000) only [push_cast, seval, ↓kw2]
      refine AC.pur hN ?_
      refine goN ?_
      simp (maxSteps := 2000000) only [push_cast, seval, ↓kw2]
      refine AC.pur m1 ?_
      refine goN ?_
      simp (maxSteps := 2000000) only [push_cast, seval, ↓kw2, w3]
      exact ⟨_, rfl, done_pur rfl rfl⟩
  · have hA := spotsA_bad w q1 q2 (bad8 hok)
    rw [dw_8 hok] at hA
    rw [decide_eq_false hok] at hM
    refine ⟨[], _, _, 8, hA, ?_, .inr ⟨rfl, rfl⟩, .inr ⟨rfl, rfl⟩, by simp⟩
    show Pur Tryz.prog GG 8 [.agg [I a, I b, I c], WT w.p w.q w.r w.s w.t w.u w.v, s, r] _
    refine goQ e8 TOk.nil 0 ?_ (by simp [AV.purL, AV.pur, hps, hpr])
    simp (maxSteps := 2000000) only [push_cast, seval, ↓kw2]
    refine AC.pur hM ?_
    refine goN ?_
    simp (maxSteps := 2000000) only [push_cast, seval, ↓kw2]
    exact ⟨_, rfl, done_pur rfl rfl⟩
theorem e10 : Ent Tryz.prog 10 Tryz.f10 [] 3 := ⟨Tryz.func10, rfl, by decide, by kernel_rfl, by kernel_rfl, by decide, by kernel_rfl⟩
attribute [push_cast] Tryz.f10
set_option maxHeartbeats 8000000 in
set_option maxRecDepth 400000 in
theorem is12 (a b c : Int) (w : Wnt) (x : Plc) : Pur Tryz.prog GG 10 [.agg [I a, I b, I c], w.av, x.av] (.tup [B (isV a b c w x), I (isE a b c w x)]) := by
  have hM := may12 a b c w.p w.q w.r w.s w.t w.u w.v
  have hC := check06 a b c x.x x.y x.z x.p x.q x.r x.s x.t x.u
  have hO := of12 w x
  rw [any_mem (turnsR_mem w)] at hO
  show Pur Tryz.prog GG 10 [.agg [I a, I b, I c], WT w.p w.q w.r w.s w.t w.u w.v, PL x.x x.y x.z x.p x.q x.r x.s x.t x.u] _
  unfold isV isE
  by_cases hok : okD a b c ∧ okW w.p w.q w.r
  · rw [decide_eq_true hok] at hM
    rw [if_pos (dw_ok.2 hok)]
    by_cases hp : pchk a b c x.x x.y x.z x.p x.q x.r x.s x.t x.u = 0
    · rw [if_pos hp]
      rw [hp] at hC ⊢
      refine goQ e10 TOk.nil 0 ?_
      simp (maxSteps := 2000000) only [push_cast, seval, ↓kw2]
      refine AC.pur hM ?_
      refine goN ?_
      simp (maxSteps := 2000000) only [push_cast, seval, ↓kw2]
      refine AC.pur hC ?_
      refine goN ?_
      simp (maxSteps := 2000000) only [push_cast, seval, ↓kw2]
      refine AC.pur hO ?_
      refine goN ?_
      simp (maxSteps := 2000000) only [push_cast, seval, ↓kw2]
      exact ⟨_, rfl, done_pur rfl rfl⟩
    · rw [if_neg hp]
      have d1 : decide (pchk a b c x.x x.y x.z x.p x.q x.r x.s x.t x.u ≠ 0) = true := decide_eq_true hp
      refine goQ e10 TOk.nil 0 ?_
      simp (maxSteps := 2000000) only [push_cast, seval, ↓kw2]
      refine AC.pur hM ?_
      refine goN ?_
      simp (maxSteps := 2000000) only [push_cast, seval, ↓kw2]
      refine AC.pur hC ?_
      refine goN ?_
      simp (maxSteps := 2000000) only [push_cast, seval, ↓kw2, d1]
      exact ⟨_, rfl, done_pur rfl rfl⟩
  · rw [decide_eq_false hok] at hM
    rw [if_neg (bad8 hok), dw_8 hok, if_neg (by decide)]
    refine goQ e10 TOk.nil 0 ?_
    simp (maxSteps := 2000000) only [push_cast, seval, ↓kw2]
    refine AC.pur hM ?_
    refine goN ?_
    simp (maxSteps := 2000000) only [push_cast, seval, ↓kw2]
    exact ⟨_, rfl, done_pur rfl rfl⟩
theorem manyR12 (a b c : Int) (w : Wnt) : Pur Tryz.prog GG 12 [.agg [I a, I b, I c], w.av] (.tup [I (if dwchk a b c w.p w.q w.r = 0 then ((wholeL a b c w).length : Int) else 0), I (dwchk a b c w.p w.q w.r)]) := by
  have h := many12 (a := a) (b := b) (c := c) w
  by_cases hok : okD a b c ∧ okW w.p w.q w.r
  · rw [if_pos hok, num_whole hok.1 (turnsR_mem w)] at h
    rw [if_pos (dw_ok.2 hok), dw_ok.2 hok]
    exact h
  · rw [if_neg hok] at h
    rw [if_neg (bad8 hok), dw_8 hok]
    exact h
theorem e3 : Ent Tryz.prog 3 Tryz.f3 [] 5 := ⟨Tryz.func3, rfl, by decide, by kernel_rfl, by kernel_rfl, by decide, by kernel_rfl⟩
attribute [push_cast] Tryz.f3
set_option maxHeartbeats 16000000 in
set_option maxRecDepth 400000 in
theorem tells_law {s r : AV} {xs ys : List Int} (hs : IsSl s (xs.map U)) (hr : IsSl r (ys.map U)) (hx : ∀ w ∈ xs, inU w) (hy : ∀ w ∈ ys, inU w) (a b c : Int) (w : Wnt) (X : Plc) :
    Pur Tryz.prog GG 3 [.agg [I a, I b, I c], w.av, s, r, X.av] (B true) := by
  have hps := hs.pur (purL_map U _ fun _ => rfl)
  have hpr := hr.pur (purL_map U _ fun _ => rfl)
  have L1 := hs.len (P := Tryz.prog) un28
  have L2 := hr.len (P := Tryz.prog) un28
  rw [List.length_map] at L1 L2
  have hsm := small_pur a b c
  show Pur Tryz.prog GG 3 [.agg [I a, I b, I c], WT w.p w.q w.r w.s w.t w.u w.v, s, r, PL X.x X.y X.z X.p X.q X.r X.s X.t X.u] _
  by_cases g1 : 100 < (xs.length : Int)
  · have d1 := decide_eq_true g1
    refine goQ e3 TOk.nil 0 ?_ (by simp [AV.purL, AV.pur, hps, hpr])
    simp (maxSteps := 2000000) only [push_cast, seval, ↓kw2, L1, L2, d1]
    exact ⟨_, rfl, done_pur rfl rfl⟩
  · have d1 := decide_eq_false g1
    by_cases g2 : 100 < (ys.length : Int)
    · have d2 := decide_eq_true g2
      refine goQ e3 TOk.nil 0 ?_ (by simp [AV.purL, AV.pur, hps, hpr])
      simp (maxSteps := 2000000) only [push_cast, seval, ↓kw2, L1, L2, d1, d2]
      exact ⟨_, rfl, done_pur rfl rfl⟩
    · have d2 := decide_eq_false g2
      cases g3 : smallV a b c
      · rw [g3] at hsm
        refine goQ e3 TOk.nil 0 ?_ (by simp [AV.purL, AV.pur, hps, hpr])
        simp (maxSteps := 2000000) only [push_cast, seval, ↓kw2, L1, L2, d1, d2]
        refine AC.pur hsm ?_
        refine goN ?_
        simp (maxSteps := 2000000) only [push_cast, seval, ↓kw2]
        exact ⟨_, rfl, done_pur rfl rfl⟩
      · rw [g3] at hsm
        obtain ⟨l, u, v, e, hA, hB, i1, i2, hl⟩ := all_same (a := a) (b := b) (c := c) w hs hr hx hy (by omega) (by omega)
        have hI := spotsIs_pur a b c w X
        have hJ := is12 a b c w X
        have hM := spotsMany_pur a b c w
        have hN := manyR12 a b c w
        have hS := same12 i1 i2 hl
        generalize isV a b c w X = V at hI hJ
        generalize isE a b c w X = E at hI hJ
        generalize (if dwchk a b c w.p w.q w.r = 0 then ((wholeL a b c w).length : Int) else 0) = N at hM hN
        generalize dwchk a b c w.p w.q w.r = D at hM hN
        refine goQ e3 TOk.nil 0 ?_ (by simp [AV.purL, AV.pur, hps, hpr])
        simp (maxSteps := 2000000) only [push_cast, seval, ↓kw2, L1, L2, d1, d2]
        refine AC.pur hsm ?_
        refine goN ?_
        simp (maxSteps := 2000000) only [push_cast, seval, ↓kw2]
        refine AC.pur hA ?_
        refine goN ?_
        simp (maxSteps := 2000000) only [push_cast, seval, ↓kw2]
        refine AC.pur hB ?_
        refine goN ?_
        simp (maxSteps := 2000000) only [push_cast, seval, ↓kw2]
        refine AC.pur hI ?_
        refine goN ?_
        simp (maxSteps := 2000000) only [push_cast, seval, ↓kw2]
        refine AC.pur hJ ?_
        refine goN ?_
        simp (maxSteps := 2000000) only [push_cast, seval, ↓kw2]
        refine AC.pur hM ?_
        refine goN ?_
        simp (maxSteps := 2000000) only [push_cast, seval, ↓kw2]
        refine AC.pur hN ?_
        refine goN ?_
        simp (maxSteps := 2000000) only [push_cast, seval, ↓kw2]
        refine AC.pur hS ?_
        refine goN ?_
        simp (maxSteps := 2000000) only [push_cast, seval, ↓kw2]
        exact ⟨_, rfl, done_pur rfl rfl⟩
end Go.Ab.Pd
